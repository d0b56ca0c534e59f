/-
 Contracts of package wire's writer: lists of entries. Conditions: as each theorem names them.
-/
import Derived.Test.YtfkacakbengboaaWireE
import Derived.Test.YtfkacakbengboaaEnts
namespace Go.Proofs.Ytfkacakbengboaa
open Go.RowKit

theorem seq_assoc (a b c : WO) : (a.seq b).seq c = a.seq (b.seq c) := by
 rcases a with _ | ⟨x, l⟩
 ·
  simp [seq_none]
 ·
  rcases b with _ | ⟨y, m⟩
  ·
   simp [seq_none, seq_some_none]
  ·
   rcases c with _ | ⟨z, n⟩
   ·
    simp [seq_some, seq_some_none]
   ·
    simp [seq_some, Bool.or_assoc]
theorem seq_nil (a : WO) : a.seq (wRaw []) = a := by
 rcases a with _ | ⟨x, l⟩
 ·
  rfl
 ·
  simp [wRaw, seq_some]
theorem nil_seq (a : WO) : (wRaw []).seq a = a := by
 rcases a with _ | ⟨x, l⟩
 ·
  rfl
 ·
  simp [wRaw, seq_some]
theorem wEntries_append (a b : List AEntry) : wEntries (a ++ b) = (wEntries a).seq (wEntries b) := by
 induction a with
 | nil => simp [wEntries, nil_seq]
 | cons x a ih => simp only [List.cons_append, wEntries, ih, seq_assoc]
theorem take_at' {α : Type} {l : List α} {i : Nat} {x : α} (h : l[i]? = some x) : l.take (i + 1) = l.take i ++ [x] := by
 obtain ⟨hi, rfl⟩ := List.getElem?_eq_some_iff.1 h
 exact List.take_succ_eq_append_getElem hi
theorem drop_at' {α : Type} {l : List α} {i : Nat} {x : α} (h : l[i]? = some x) : l.drop i = x :: l.drop (i + 1) := by
 obtain ⟨hi, rfl⟩ := List.getElem?_eq_some_iff.1 h
 exact List.drop_eq_getElem_cons hi
theorem wEntries_snoc {l : List AEntry} {i : Nat} {x : AEntry} (h : l[i]? = some x) : wEntries (l.take (i + 1)) = (wEntries (l.take i)).seq (wEntry x) := by
 rw [take_at' h, wEntries_append]; simp [wEntries, seq_nil]
theorem wEntries_throw {l : List AEntry} {i : Nat} {x : AEntry} (h : l[i]? = some x) (hn : wEntry x = none) : wEntries l = none := by
 have e : l = l.take i ++ (x :: l.drop (i + 1)) := by rw [← drop_at' h, List.take_append_drop]
 rw [e, wEntries_append, wEntries, hn, seq_none]
 rcases wEntries (l.take i) with _ | ⟨_, _⟩ <;> rfl
theorem wCall_len (c : ACall) : ∀ d l, wCall c = some (d, l) → d.length ≤ 60000 := by
 intro d l h
 have := seq_len (seq_len (seq_len (wRaw_len (encInts_len [c.client, c.seq, c.cmd.kind])) (wText_len _)) (wValue_len c.cmd.old)) (wValue_len c.cmd.val) d l h
 simp at this; omega
theorem wEntry_len (x : AEntry) : ∀ d l, wEntry x = some (d, l) → d.length ≤ 70000 := by
 intro d l h
 have := seq_len (n := 60000) (seq_len (seq_len (seq_len (wRaw_len (encInts_len [x.term, x.kind])) (wMust_len _)) (wMust_len _)) (wMust_len _)) (fun d l h => by
  split at h
  ·
   exact wCall_len _ d l h
  ·
   split at h
   ·
    have := wRaw_len (encInts_len _) d l h; simp at this; omega
   ·
    have := wRaw_len (n := 0) (by simp) d l h; omega) d l h
 simp at this; omega
theorem wEntries_len (es : List AEntry) : ∀ d l, wEntries es = some (d, l) → d.length ≤ es.length * 70000 := by
 induction es with
 | nil => intro d l h; have := wRaw_len (n := 0) (by simp) d l h; omega
 | cons x es ih =>
  intro d l h
  have := seq_len (wEntry_len x) ih d l h
  simp [Nat.succ_mul] at *; omega

set_option maxRecDepth 100000 in
set_option maxHeartbeats 2000000 in
theorem wi_entries (w : World) (S T : Nat → Prop) (b : Nat) (bs : List UInt8) (long : Bool) (v : Value) (l : List AEntry) (h : St w S b bs long) (hv : Ents w T v l) (hd : ∀ g, T g → ¬ S g) (hl : l.length ≤ 1000) (hb : bs.length ≤ 800000000) :
  Calls Try.prog 64 #[.pointer (some ⟨b, 0, none⟩), v] w (WOut w S b bs long (wList l)) := by
 obtain ⟨n, hn⟩ : ∃ n, l.length = n := ⟨_, rfl⟩
 obtain ⟨A, c, rfl⟩ := hv.1.form
 rw [hn] at hv hl ⊢
 have Hn := Lib.hid hn
 clear hn
 have hlI := encInt_len n
 have Hs : Hid (wList l = WO.seq (some (encInt n, false)) (wEntries l)) := Lib.hid (by unfold wList wRaw; rw [Hn.out])
 go_enter Try.func64, Try.ntmps64
 go_wp2_with fail
 refine (w_int w S b bs long n h.1 (by omega) (by omega) (by omega)).mono ?_
 rintro e w1 ⟨rfl, hW1, hm1⟩
 obtain ⟨S1, hS1, hg1⟩ := st_of hW1
 have Hg1 := Lib.hid hg1
 clear hg1
 go_wp2
 go_loopw [14] (fun iv wr => ∃ (i : Nat) (S2 : Nat → Prop) (d : List UInt8) (l2 : Bool), i ≤ n ∧ iv = .int .i64 i ∧ wEntries (l.take i) = some (d, l2) ∧ St wr S2 b (bs ++ (encInt n ++ d)) (long || l2) ∧ (∀ k, S2 k → S k ∨ w.heap.size ≤ k) ∧ Mod S w wr) (fun iv _ => n - (intOf iv).toNat)
 case atStart => exact ⟨0, S1, [], false, by omega, rfl, rfl, by simpa using hS1, Hg1.out, hm1⟩
 case round =>
  obtain ⟨i, S2, d, l2, hin, rfl, hd2, hS2, hg2, hm2⟩ := hrel
  have hdl := wEntries_len _ _ _ hd2
  rw [List.length_take] at hdl
  have Hd2 := Lib.hid hd2
  have Hg2 := Lib.hid hg2
  clear hd2 hg2
  have hvr := hv.mod hm2 hd
  by_cases hi : i < n
  ·
   obtain ⟨g, off, x, rfl, hgT, hx, hxok, hcells⟩ := hvr.at hi
   have x0 := hcells 0 _ rfl
   have x1 := hcells 1 _ rfl
   have x2 := hcells 2 _ rfl
   have x3 := hcells 3 _ rfl
   have x4 := hcells 4 _ rfl
   have x5 := hcells 5 _ rfl
   have x6 := hcells 6 _ rfl
   have x7 := hcells 7 _ rfl
   have x8 := hcells 8 _ rfl
   have x9 := hcells 9 _ rfl
   have x10 := hcells 10 _ rfl
   have x11 := hcells 11 _ rfl
   have x12 := hcells 12 _ rfl
   have x13 := hcells 13 _ rfl
   have x14 := hcells 14 _ rfl
   have x15 := hcells 15 _ rfl
   have Hx := Lib.hid hx
   have Hok := Lib.hid hxok
   clear hcells hx hvr hxok
   rw [Nat.add_zero] at x0
   go_wp2_with fail
   have hEx : Ext wr (wr.alloc (.cells #[.int .i64 x.term, .int .i64 x.kind, .int .i64 x.call.client, .int .i64 x.call.seq, .int .i64 x.call.cmd.kind, .string x.call.cmd.key, .int .i64 x.call.cmd.old.kind, .float .f64 x.call.cmd.old.num, .string x.call.cmd.old.text, .int .i64 x.call.cmd.val.kind, .float .f64 x.call.cmd.val.num, .string x.call.cmd.val.text, .int .i64 x.conf.full, .int .i64 x.conf.wit, .int .i64 x.conf.learn, .int .i64 x.conf.learnWit] 44)) := (Mod.refl _ wr).alloc _
   refine (wi_entry _ S2 b _ _ x (hS2.of_ext hEx) Hok.out (by simp; omega)).mono ?_
   rintro e w3 ⟨hm4, h4⟩
   have hm4 : Mod S2 wr w3 := (hEx.mod S2).self hm4
   have hm5 := mod_gr hm2 hm4 Hg2.out
   have hsx := hEx.size
   clear x0 x1 x2 x3 x4 x5 x6 x7 x8 x9 x10 x11 x12 x13 x14 x15
   rcases hV : wEntry x with _ | ⟨D2, L2⟩
   ·
    rw [hV] at h4
    subst h4
    exact ⟨rfl, fin_none (Mod.refl _ w) hm5 (by
     have e1 := wEntries_throw Hx.out hV
     rw [Hs.out, e1, seq_some_none])⟩
   ·
    rw [hV] at h4
    obtain ⟨rfl, S3, hS3, hg3⟩ := h4
    have hg5 : ∀ k, S3 k → S k ∨ w.heap.size ≤ k := gr_trans Hg2.out (fun k hk => (hg3 k hk).imp id (fun h => Nat.le_trans hsx h)) hm2.size
    have Hg5 := Lib.hid hg5
    have Hsn : Hid (wEntries (l.take (i + 1)) = some (d ++ D2, l2 || L2)) := Lib.hid (by rw [wEntries_snoc Hx.out, Hd2.out, hV, seq_some])
    clear hg5 hg3 hV hEx
    go_wp2
    exact ⟨⟨i + 1, S3, d ++ D2, l2 || L2, by omega, by go_num, Hsn.out, by simpa [Bool.or_assoc] using hS3, Hg5.out, hm5⟩, by simp [intOf]; omega⟩
  ·
   have Ho : Hid (wList l = some (encInt n ++ d, l2)) := Lib.hid (by
    have := Hd2.out
    rw [List.take_of_length_le (by rw [Hn.out]; omega)] at this
    rw [Hs.out, this, seq_some, Bool.false_or])
   go_wp2
   go_end0
   exact fin_some (d := encInt n ++ d) (l := l2) (Mod.refl _ w) hm2 hS2 Hg2.out Ho.out
end Go.Proofs.Ytfkacakbengboaa
