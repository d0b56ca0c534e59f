/-
  Lists of entries in memory. No program is walked here. Conditions: as each theorem names them.
-/
import Derived.Test.YtjhnlncgmejkcaaGreatGSpec
import Derived.Test.YtjhnlncgmejkcaaGreatS6
import Derived.Defers
import Derived.Recover
import Derived.Test.YtjhnlncgmejkcaaGreatMem
import Derived.Laws.CopyRow
import Derived.Laws.Cells
set_option maxRecDepth 100000
set_option maxHeartbeats 2000000
namespace Go.Proofs.YtjhnlncgmejkcaaGreat
def zbJ (w : World) (T : Nat → Prop) (v : Value) (l : List zI) : Prop := Sl w T 16 v l.length (l.flatMap zI.cells) ∧ ∀ x ∈ l, x.ok
theorem zbJ.mod {w w' : World} {S T : Nat → Prop} {v : Value} {l : List zI} (h : zbJ w T v l) (hm : Mod S w w') (hd : ∀ g, T g → ¬ S g) : zbJ w' T v l := ⟨h.1.mod hm hd, h.2⟩
theorem zbJ.at {w : World} {T : Nat → Prop} {A : Option Addr} {n c : Nat} {l : List zI} (h : zbJ w T (.slice A n c) l) {i : Nat} (hi : i < n) :
  ∃ g off x, A = some ⟨g, off, none⟩ ∧ T g ∧ l[i]? = some x ∧ x.ok ∧ ∀ j u, x.cells[j]? = some u → w.cell? ⟨g, off + i * 16 + j, none⟩ = some u := by
 obtain ⟨⟨hl, A', c', e, hn, hc, hx⟩, hf⟩ := h
 injection e with e1 e2 e3; subst e1; subst e2; subst e3
 obtain ⟨g, off, rfl, hT, hcell⟩ := hx (by omega)
 have hget : l[i]? = some l[i] := List.getElem?_eq_getElem hi
 refine ⟨g, off, l[i], rfl, hT, hget, hf _ (List.getElem_mem hi), fun j u hu => ?_⟩
 have hj : j < 16 := (List.getElem?_eq_some_iff.1 hu).1
 rw [Nat.add_assoc]
 exact hcell _ u (by rw [zfC (k := 16) (fun _ => rfl) l i j _ hget hj]; exact hu)
end Go.Proofs.YtjhnlncgmejkcaaGreat
namespace Go.Proofs.YtjhnlncgmejkcaaGreat
open Go.RowKit
theorem zoZ (a b c : WO) : (a.seq b).seq c = a.seq (b.seq c) := by
 rcases a with _ | ⟨x, l⟩
 · simp [zcD]
 rcases b with _ | ⟨y, m⟩
 · simp [zcD, xN]
 rcases c with _ | ⟨z, n⟩
 · simp [xA, xN]
 simp [xA, Bool.or_assoc]
theorem seq_nil (a : WO) : a.seq (zcH []) = a := by
 rcases a with _ | ⟨x, l⟩
 · rfl
 simp [zcH, xA]
theorem nil_seq (a : WO) : (zcH []).seq a = a := by
 rcases a with _ | ⟨x, l⟩
 · rfl
 simp [zcH, xA]
theorem zcN (a b : List zI) : xM (a ++ b) = (xM a).seq (xM b) := by
 induction a with
 | nil => simp [xM, nil_seq]
 | cons x a ih => simp only [List.cons_append, xM, ih, zoZ]
theorem zlR {α : Type} {l : List α} {i : Nat} {x : α} (h : l[i]? = some x) : l.take (i + 1) = l.take i ++ [x] := by
 obtain ⟨hi, rfl⟩ := List.getElem?_eq_some_iff.1 h
 exact List.take_succ_eq_append_getElem hi
theorem drop_at' {α : Type} {l : List α} {i : Nat} {x : α} (h : l[i]? = some x) : l.drop i = x :: l.drop (i + 1) := by
 obtain ⟨hi, rfl⟩ := List.getElem?_eq_some_iff.1 h
 exact List.drop_eq_getElem_cons hi
theorem zh4 {l : List zI} {i : Nat} {x : zI} (h : l[i]? = some x) : xM (l.take (i + 1)) = (xM (l.take i)).seq (jR x) := by
 rw [zlR h, zcN]; simp [xM, seq_nil]
theorem zgW {l : List zI} {i : Nat} {x : zI} (h : l[i]? = some x) (hn : jR x = none) : xM l = none := by
 have e : l = l.take i ++ (x :: l.drop (i + 1)) := by rw [← drop_at' h, List.take_append_drop]
 rw [e, zcN, xM, hn, zcD]
 rcases xM (l.take i) with _ | ⟨_, _⟩ <;> rfl
theorem zo0 (c : yK) : ∀ d l, zhM c = some (d, l) → d.length ≤ 60000 := by
 intro d l h
 have := zaA (zaA (zaA (zaW (yM [c.client, c.seq, c.cmd.kind])) (zcM _)) (zeN c.cmd.old)) (zeN c.cmd.val) d l h
 simp at this; omega
theorem zg9 (x : zI) : ∀ d l, jR x = some (d, l) → d.length ≤ 70000 := by
 intro d l h
 have := zaA (n := 60000) (zaA (zaA (zaA (zaW (yM [x.term, x.kind])) (zb7 _)) (zb7 _)) (zb7 _)) (fun d l h => by
  split at h
  · exact zo0 _ d l h
  split at h
  · have := zaW (yM _) d l h; simp at this; omega
  have := zaW (n := 0) (by simp) d l h; omega) d l h
 simp at this; omega
theorem zeY (es : List zI) : ∀ d l, xM es = some (d, l) → d.length ≤ es.length * 70000 := by
 induction es with
 | nil => intro d l h; have := zaW (n := 0) (by simp) d l h; omega
 | cons x es ih =>
  intro d l h
  have := zaA (zg9 x) ih d l h
  simp [Nat.succ_mul] at *; omega
theorem zm3 (w : World) (S T : Nat → Prop) (b : Nat) (bs : List UInt8) (long : Bool) (v : Value) (l : List zI) (h : St w S b bs long) (hv : zbJ w T v l) (hd : ∀ g, T g → ¬ S g) (hl : l.length ≤ 12700) (hb : bs.length + 70000 * l.length ≤ 896000000) :
  Calls Tryz.prog 169 #[.pointer (some ⟨b, 0, none⟩), v] w (znQ w S b bs long (zhN l)) := by
 obtain ⟨n, hn⟩ : ∃ n, l.length = n := ⟨_, rfl⟩
 obtain ⟨A, c, rfl⟩ := hv.1.form
 rw [hn] at hv hl hb ⊢
 have Hn := hJ hn
 clear hn
 have hlI := zV n
 have Hs : Hid (zhN l = WO.seq (some (zS n, false)) (xM l)) := hJ (by unfold zhN zcH; rw [Hn.out])
 go_enter Tryz.func169, Tryz.ntmps169
 go_wp2_with fail
 refine (zn0 w S b bs long n h.1 (by omega) (by omega) (by omega)).mono ?_
 rintro e w1 ⟨rfl, hW1, hm1⟩
 obtain ⟨S1, hS1, hg1⟩ := zh1 hW1
 have Hg1 := hJ hg1
 clear hg1
 go_wp2
 go_loopw [14] (fun iv wr => ∃ (i : Nat) (S2 : Nat → Prop) (d : List UInt8) (l2 : Bool), i ≤ n ∧ iv = .int .i64 i ∧ xM (l.take i) = some (d, l2) ∧ St wr S2 b (bs ++ (zS n ++ d)) (long || l2) ∧ (∀ k, S2 k → S k ∨ w.heap.size ≤ k) ∧ Mod S w wr) (fun iv _ => n - (intOf iv).toNat)
 case atStart => exact ⟨0, S1, [], false, by omega, rfl, rfl, by simpa using hS1, Hg1.out, hm1⟩
 obtain ⟨i, S2, d, l2, hin, rfl, hd2, hS2, hg2, hm2⟩ := hrel
 have hdl := zeY _ _ _ hd2
 rw [List.length_take] at hdl
 have Hd2 := hJ hd2
 have Hg2 := hJ hg2
 clear hd2 hg2
 have hvr := hv.mod hm2 hd
 by_cases hi : i < n
 ·
  obtain ⟨g, off, x, rfl, hgT, hx, hxok, hcells⟩ := hvr.at hi
  have x0 := hcells 0 _ rfl
  have x1 := hcells 1 _ rfl
  have x2 := hcells 2 _ rfl
  have x3 := hcells 3 _ rfl
  have x4 := hcells 4 _ rfl
  have x5 := hcells 5 _ rfl
  have x6 := hcells 6 _ rfl
  have x7 := hcells 7 _ rfl
  have x8 := hcells 8 _ rfl
  have x9 := hcells 9 _ rfl
  have x10 := hcells 10 _ rfl
  have x11 := hcells 11 _ rfl
  have x12 := hcells 12 _ rfl
  have x13 := hcells 13 _ rfl
  have x14 := hcells 14 _ rfl
  have x15 := hcells 15 _ rfl
  have Hx := hJ hx
  have Hok := hJ hxok
  clear hcells hx hvr hxok
  rw [Nat.add_zero] at x0
  go_wp2_with fail
  have hEx : Ext wr (wr.alloc (.cells #[.int .i64 x.term, .int .i64 x.kind, .int .i64 x.call.client, .int .i64 x.call.seq, .int .i64 x.call.cmd.kind, .string x.call.cmd.key, .int .i64 x.call.cmd.old.kind, .float .f64 x.call.cmd.old.num, .string x.call.cmd.old.text, .int .i64 x.call.cmd.val.kind, .float .f64 x.call.cmd.val.num, .string x.call.cmd.val.text, .int .i64 x.conf.full, .int .i64 x.conf.wit, .int .i64 x.conf.learn, .int .i64 x.conf.learnWit] 56)) := (Mod.refl _ wr).alloc _
  refine (zlQ _ S2 b _ _ x (hS2.of_ext hEx) Hok.out (by simp; omega)).mono ?_
  rintro e w3 ⟨hm4, h4⟩
  have hm4 : Mod S2 wr w3 := (hEx.mod S2).self hm4
  have hm5 := zb6 hm2 hm4 Hg2.out
  have hsx := hEx.size
  clear x0 x1 x2 x3 x4 x5 x6 x7 x8 x9 x10 x11 x12 x13 x14 x15
  rcases hV : jR x with _ | ⟨D2, L2⟩
  ·
   rw [hV] at h4
   subst h4
   exact ⟨rfl, xV (Mod.refl _ w) hm5 (by
    have e1 := zgW Hx.out hV
    rw [Hs.out, e1, xN])⟩
  rw [hV] at h4
  obtain ⟨rfl, S3, hS3, hg3⟩ := h4
  have hg5 : ∀ k, S3 k → S k ∨ w.heap.size ≤ k := jW Hg2.out (fun k hk => (hg3 k hk).imp id (fun h => Nat.le_trans hsx h)) hm2.size
  have Hg5 := hJ hg5
  have Hsn : Hid (xM (l.take (i + 1)) = some (d ++ D2, l2 || L2)) := hJ (by rw [zh4 Hx.out, Hd2.out, hV, xA])
  clear hg5 hg3 hV hEx
  go_wp2
  exact ⟨⟨i + 1, S3, d ++ D2, l2 || L2, by omega, by go_num, Hsn.out, by simpa [Bool.or_assoc] using hS3, Hg5.out, hm5⟩, by simp [intOf]; omega⟩
 have Ho : Hid (zhN l = some (zS n ++ d, l2)) := hJ (by
  have := Hd2.out
  rw [List.take_of_length_le (by rw [Hn.out]; omega)] at this
  rw [Hs.out, this, xA, Bool.false_or])
 go_wp2
 go_end0
 exact jX (d := zS n ++ d) (l := l2) (Mod.refl _ w) hm2 hS2 Hg2.out Ho.out
end Go.Proofs.YtjhnlncgmejkcaaGreat
namespace Go.Proofs.YtjhnlncgmejkcaaGreat
open Go.RowKit
theorem ta_wrong (n : Int) (w : World) : (Instr.typeAssert (.iface 191 (.agg #[.int .i64 n])) 20 191 true).run Tryz.prog w = .ok (.tuple #[.agg #[.int .i64 n], .bool true]) w := by kernel_rfl
attribute [local go_sem] ta_wrong
theorem zfW (n : Int) (p : Nat) (u : Value) (w : World) (hc : w.cell? ⟨p, 0, none⟩ = some u) (hf : w.frozen? ⟨p, 0, none⟩ = false) :
  Calls Tryz.prog 165 #[.iface 191 (.agg #[.int .i64 n]), (.pointer (some ⟨p, 0, none⟩))] w fun e w' => e = .returned (.tuple #[]) ∧ w' = (w.setCell ⟨p, 0, none⟩ (.int .i64 n)).alloc (.cells #[.int .i64 n] 191) := by
 have hlt : p < w.heap.size := World.block_lt_of_cell? _ _ hc
 go_enter Tryz.func165, Tryz.ntmps165
 go_wp2
 go_end0
 exact ⟨rfl, rfl⟩
theorem wd_idle (pb pe : Addr) (w : World) :
  CallsD Tryz.prog 164 #[.pointer (some pb), .pointer (some pe)] .returning w fun e u' w' => e = .returned (.tuple #[]) ∧ u' = .returning ∧ w' = w := by
 refine callsD_of_wpS Tryz.func164 rfl fun c₀ cs hu => ?_
 apply wpS_seq
 apply wpS_region
 simp [wpOpsS, go_sem, recoverD, hu, Tryz.ntmps164, Exit.thenS]
 refine wpS_of_wp ?_
 go_wp2
 cases c₀
 simp_all [bodyPostS, results, Tryz.results164]
theorem zfX (pb pe : Nat) (n : Int) (w : World) (ub ue : Value) (hb : w.cell? ⟨pb, 0, none⟩ = some ub) (fb : w.frozen? ⟨pb, 0, none⟩ = false) (he : w.cell? ⟨pe, 0, none⟩ = some ue) (fe : w.frozen? ⟨pe, 0, none⟩ = false) (hne : pb ≠ pe) :
  CallsD Tryz.prog 164 #[.pointer (some ⟨pb, 0, none⟩), .pointer (some ⟨pe, 0, none⟩)] (.panicking [{ v := .iface 191 (.agg #[.int .i64 n]), recovered := false }]) w fun e u' w' =>
   e = .returned (.tuple #[]) ∧ u' = .panicking [{ v := .iface 191 (.agg #[.int .i64 n]), recovered := true }] ∧ w' = (((w.setCell ⟨pb, 0, none⟩ (.slice none 0 0)).setCell ⟨pe, 0, none⟩ (.int .i64 n)).alloc (.cells #[.int .i64 n] 191)) := by
 refine callsD_of_wpS Tryz.func164 rfl fun c₀ cs hu => ?_
 apply wpS_seq
 apply wpS_region
 simp [wpOpsS, go_sem, recoverD, hu, Tryz.ntmps164, Exit.thenS]
 refine wpS_of_wp ?_
 go_wp2_with fail
 refine (zfW n pe ue _ (by rw [World.cell?_of_block (Below.heap_setCell _ _ _ _ (Ne.symm hne))]; exact he) (by rw [World.frozen?_of_block (Below.heap_setCell _ _ _ _ (Ne.symm hne))]; exact fe)).mono ?_
 rintro e w1 ⟨rfl, rfl⟩
 go_wp2
 cases c₀
 simp_all [bodyPostS, results, Tryz.results164]
def zbK (w : World) (o : WO) (e : Ending) (w' : World) : Prop := ∃ v, e = .returned (.tuple #[v, .int .i64 (ziL o).2]) ∧ yO w w' v (ziL o).1 ∧ Ext w w'
theorem zh5 {w : World} {g h : Nat} {a b : Value} {t u : TypeId} (x y : Value) (hg : w.heap[g]? = some (.cells #[a] t (0, 0))) (hh : w.heap[h]? = some (.cells #[b] u (0, 0))) (hne : g ≠ h) :
  ((w.setCell ⟨g, 0, none⟩ x).setCell ⟨h, 0, none⟩ y).heap[g]? = some (.cells #[x] t (0, 0)) ∧ ((w.setCell ⟨g, 0, none⟩ x).setCell ⟨h, 0, none⟩ y).heap[h]? = some (.cells #[y] u (0, 0)) ∧
  Mod (fun k => k = g ∨ k = h) w ((w.setCell ⟨g, 0, none⟩ x).setCell ⟨h, 0, none⟩ y) := by
 refine ⟨?_, ?_, ((Mod.refl _ w).setCell (p := ⟨g, 0, none⟩) (.inr (.inl rfl)) _).setCell (p := ⟨h, 0, none⟩) (.inr (.inr rfl)) _⟩
 · rw [Below.heap_setCell _ _ _ _ (by simpa using hne)]
   simp [World.setCell, Array.getElem?_modify, hg]
 have : (w.setCell ⟨g, 0, none⟩ x).heap[h]? = some (.cells #[b] u (0, 0)) := by rw [Below.heap_setCell _ _ _ _ (by simpa using Ne.symm hne)]; exact hh
 generalize w.setCell ⟨g, 0, none⟩ x = w' at this ⊢
 simp [World.setCell, Array.getElem?_modify, this]
theorem qD {w : World} {g : Nat} {a : Value} {t : TypeId} (hg : w.heap[g]? = some (.cells #[a] t (0, 0))) : w.cell? ⟨g, 0, none⟩ = some a ∧ w.frozen? ⟨g, 0, none⟩ = false := by
 simp [World.cell?, World.frozen?, hg]
theorem zcO {w w1 : World} {u0 u1 : Value} (n : Int) (r0 : w1.cell? ⟨w.heap.size, 0, none⟩ = some u0) (r1 : w1.cell? ⟨w.heap.size + 1, 0, none⟩ = some u1) (hE : Mod (zZ w.heap.size) w w1) (hs : w.heap.size + 1 < w1.heap.size) :
  (((w1.setCell ⟨w.heap.size, 0, none⟩ (.slice none 0 0)).setCell ⟨w.heap.size + 1, 0, none⟩ (.int .i64 n)).alloc (.cells #[.int .i64 n] 191)).cell? ⟨w.heap.size, 0, none⟩ = some (.slice none 0 0) ∧
  (((w1.setCell ⟨w.heap.size, 0, none⟩ (.slice none 0 0)).setCell ⟨w.heap.size + 1, 0, none⟩ (.int .i64 n)).alloc (.cells #[.int .i64 n] 191)).cell? ⟨w.heap.size + 1, 0, none⟩ = some (.int .i64 n) ∧
  Ext w (((w1.setCell ⟨w.heap.size, 0, none⟩ (.slice none 0 0)).setCell ⟨w.heap.size + 1, 0, none⟩ (.int .i64 n)).alloc (.cells #[.int .i64 n] 191)) := by
 have r1' : (w1.setCell ⟨w.heap.size, 0, none⟩ (.slice none 0 0)).cell? ⟨w.heap.size + 1, 0, none⟩ = some u1 := by
  rw [World.cell?_setCell_other _ _ _ _ (by simp)]; exact r1
 have z0 : (w1.setCell ⟨w.heap.size, 0, none⟩ (.slice none 0 0)).cell? ⟨w.heap.size, 0, none⟩ = some (.slice none 0 0) := World.cell?_setCell_same _ _ _ r0
 have z1 : ((w1.setCell ⟨w.heap.size, 0, none⟩ (.slice none 0 0)).setCell ⟨w.heap.size + 1, 0, none⟩ (.int .i64 n)).cell? ⟨w.heap.size + 1, 0, none⟩ = some (.int .i64 n) := World.cell?_setCell_same _ _ _ r1'
 have hsz : ((w1.setCell ⟨w.heap.size, 0, none⟩ (.slice none 0 0)).setCell ⟨w.heap.size + 1, 0, none⟩ (.int .i64 n)).heap.size = w1.heap.size := by simp [World.setCell]
 refine ⟨?_, ?_, Mod.toExt (((hE.setCell (p := ⟨w.heap.size, 0, none⟩) (.inl (Nat.le_refl _)) _).setCell (p := ⟨w.heap.size + 1, 0, none⟩) (.inl (by simp)) _).alloc _)⟩
 · rw [World.cell?_alloc_lt _ _ _ (by rw [hsz]; simp; omega), World.cell?_setCell_other _ _ _ _ (by simp)]; exact z0
 rw [World.cell?_alloc_lt _ _ _ (by rw [hsz]; simp; omega)]; exact z1
theorem zfY (f : FuncId) (p : Nat) (w : World) (o : WO) (hcall : ∀ args W, (callFunc f args).run Tryz.prog W = .ok (.enter f args) W) (ho : ∀ d l, o = some (d, l) → d.length ≤ 900000000)
  (hstep : ∀ W b, Ext w W → w.heap.size ≤ b → St W (fun k => k = b) b [] false → Calls Tryz.prog f #[.pointer (some ⟨b, 0, none⟩), .pointer (some ⟨p, 0, none⟩)] W (znQ W (fun k => k = b) b [] false o)) :
  Calls Tryz.prog 126 #[.func (Fn.func f) #[] #[.pointer (some ⟨p, 0, none⟩)]] w (zbK w o) := by
 have hmf : ∀ (fn : Fn) (first cap : Array Value) (w : World), (Instr.makeFunc fn first cap).run Tryz.prog w = .ok (.func fn first cap) w := fun _ _ _ _ => rfl
 have Hstep := hJ hstep
 have Ho := hJ ho
 have Hfail : Hid (∀ n : Int, ziL o = ([], n) → ∀ w', Ext w w' → zbK w o (.returned (.tuple #[.slice none 0 0, .int .i64 n])) w') := hJ (fun n h w' hE => by
  unfold zbK
  rw [h]
  exact ⟨_, rfl, ⟨World.ownsRow_nil _ _ _ _, by simp [Value.ownBlock]⟩, hE⟩)
 clear hstep ho
 go_enter_defers Tryz.func126, Tryz.ntmps126
 go_wp2_with fail
 obtain ⟨W3, hW3⟩ : ∃ W3, W3 = ((w.alloc (.cells #[.slice none 0 0] 25)).alloc (.cells #[.int .i64 0] 29)).alloc (.cells #[.slice none 0 0, .bool false] 189) := ⟨_, rfl⟩
 have hE : Ext w W3 := by rw [hW3]; exact (((Mod.refl _ w).alloc _).alloc _).alloc _
 have hsz : W3.heap.size = w.heap.size + 3 := by rw [hW3]; simp
 have hS0 : St W3 (fun k => k = w.heap.size + 1 + 1) (w.heap.size + 1 + 1) [] false := by
  refine ⟨⟨_, 189, ?_, World.ownsRow_nil _ _ _ _, rfl, by simp [Value.ownBlock]⟩, fun k hk => by omega⟩
  rw [hW3]
  have := heap_alloc_new ((w.alloc (.cells #[.slice none 0 0] 25)).alloc (.cells #[.int .i64 0] 29)) (.cells #[.slice none 0 0, .bool false] 189)
  simpa using this
 have b0 : W3.heap[w.heap.size]? = some (.cells #[.slice none 0 0] 25 (0, 0)) := by
  rw [hW3, Below.heap_alloc _ _ _ (by simp; omega), Below.heap_alloc _ _ _ (by simp)]
  exact heap_alloc_new w _
 have b1 : W3.heap[w.heap.size + 1]? = some (.cells #[.int .i64 0] 29 (0, 0)) := by
  rw [hW3, Below.heap_alloc _ _ _ (by simp)]
  have := heap_alloc_new (w.alloc (.cells #[.slice none 0 0] 25)) (.cells #[.int .i64 0] 29)
  simpa using this
 rw [← hW3]
 have HW3 := hJ hW3
 have Hsz := hJ hsz
 clear hW3 hsz
 refine (Hstep.out W3 _ hE (by omega) hS0).mono ?_
 rintro e w1 ⟨hm1, h1⟩
 have c0 := hm1.blk b0 (by omega)
 have c1 := hm1.blk b1 (by omega)
 have hs1 := hm1.size
 have hE1 : Mod (zZ w.heap.size) w w1 := (hE.mod _).trans hm1 (fun k _ h => by unfold zZ; omega)
 have r0 : w1.cell? ⟨w.heap.size, 0, none⟩ = some (.slice none 0 0) := by simp [World.cell?, c0]
 have r1 : w1.cell? ⟨w.heap.size + 1, 0, none⟩ = some (.int .i64 0) := by simp [World.cell?, c1]
 have f0 : w1.frozen? ⟨w.heap.size, 0, none⟩ = false := by simp [World.frozen?, c0]
 have f1 : w1.frozen? ⟨w.heap.size + 1, 0, none⟩ = false := by simp [World.frozen?, c1]
 have HE1 := hJ hE1
 rcases o with _ | ⟨d, l⟩
 ·
  subst h1
  refine leaves_cons (f := 164) (args := #[.pointer (some ⟨w.heap.size, 0, none⟩), .pointer (some ⟨w.heap.size + 1, 0, none⟩)]) (by simp) (by simp [go_sem]) ?_
  refine (zfX _ _ 3 _ _ _ r0 f0 r1 f1 (by omega)).mono ?_
  rintro e u' w'' ⟨rfl, rfl, rfl⟩
  obtain ⟨q0, q1, q2⟩ := zcO (w := w) 3 r0 r1 hE1 (by have := Hsz.out; omega)
  have hF := Hfail.out 3 rfl _ q2
  simp [Leaves, settle, results, Tryz.results126, go_sem, q0, q1]
  exact hF
 obtain ⟨rfl, S1, hS1, hg1⟩ := h1
 have hdl := Ho.out d l rfl
 have Hg1 := hJ hg1
 clear hg1
 rw [List.nil_append, Bool.false_or] at hS1
 rcases l with _ | _
 ·
  go_wp2_with fail
  refine (zn2 _ _ _ _ hS1.1 (by omega)).mono ?_
  rintro e w2 ⟨v2, rfl, hN2, hE2⟩
  have r0 := hE2.cell r0 id
  have r1 := hE2.cell r1 id
  have c0 := hE2.blk c0 id
  have c1 := hE2.blk c1 id
  have f0 : w2.frozen? ⟨w.heap.size, 0, none⟩ = false := by simp [World.frozen?, c0]
  have f1 : w2.frozen? ⟨w.heap.size + 1, 0, none⟩ = false := by simp [World.frozen?, c1]
  obtain ⟨m, hm⟩ : ∃ m, d.length = m := ⟨_, rfl⟩
  obtain ⟨A2, k2, rfl⟩ := zN hN2.1
  have Hm := hJ hm
  rw [hm] at hN2 hdl ⊢
  have HN2 := hJ hN2
  have C0 := hJ c0
  have C1 := hJ c1
  have hE12 : Mod (zZ w.heap.size) w w2 := hE1.ext hE2
  have hs2 := hE2.size
  clear hm hN2 c0 c1
  by_cases hl : 16384 < m
  ·
   have dl : decide ((16384 : Int) < (m : Int)) = true := by simp; omega
   go_wp2
   obtain ⟨d0, d1, dm⟩ := zh5 (.slice A2 m k2) (.int .i64 0) C0.out C1.out (by omega)
   obtain ⟨t0, g0⟩ := qD d0
   obtain ⟨t1, g1⟩ := qD d1
   have hE3 := hE12.trans dm (fun k _ h => by unfold zZ; omega)
   have hs3 := dm.size
   refine leaves_cons (f := 164) (args := #[.pointer (some ⟨w.heap.size, 0, none⟩), .pointer (some ⟨w.heap.size + 1, 0, none⟩)]) (by simp) (by simp [go_sem]) ?_
   refine (zfX _ _ 2 _ _ _ t0 g0 t1 g1 (by omega)).mono ?_
   rintro e u' w'' ⟨rfl, rfl, rfl⟩
   obtain ⟨q0, q1, q2⟩ := zcO (w := w) 2 t0 t1 hE3 (by have := Hsz.out; omega)
   have hF := Hfail.out 2 (by simp [ziL, Hm.out, hl]) _ q2
   simp [Leaves, settle, results, Tryz.results126, go_sem, q0, q1]
   exact hF
  have dl : decide ((16384 : Int) < (m : Int)) = false := by simp; omega
  go_wp2
  obtain ⟨d0, d1, dm⟩ := zh5 (.slice A2 m k2) (.int .i64 0) C0.out C1.out (by omega)
  obtain ⟨e0, e1, em⟩ := zh5 (.slice A2 m k2) (.int .i64 0) d0 d1 (by omega)
  obtain ⟨t0, g0⟩ := qD e0
  obtain ⟨t1, g1⟩ := qD e1
  have hE3 : Mod (zZ w.heap.size) w _ := (hE12.trans dm (fun k _ h => by unfold zZ; omega)).trans em (fun k _ h => by unfold zZ; omega)
  refine leaves_cons (f := 164) (args := #[.pointer (some ⟨w.heap.size, 0, none⟩), .pointer (some ⟨w.heap.size + 1, 0, none⟩)]) (by simp) (by simp [go_sem]) ?_
  refine (wd_idle _ _ _).mono ?_
  rintro e u' w'' ⟨rfl, rfl, rfl⟩
  have htold : ziL (some (d, false)) = (d, 0) := by simp [ziL, Hm.out]; omega
  have hF : zbK w (some (d, false)) (.returned (.tuple #[.slice A2 m k2, .int .i64 0])) ((((w2.setCell ⟨w.heap.size, 0, none⟩ (.slice A2 m k2)).setCell ⟨w.heap.size + 1, 0, none⟩ (.int .i64 0)).setCell ⟨w.heap.size, 0, none⟩ (.slice A2 m k2)).setCell ⟨w.heap.size + 1, 0, none⟩ (.int .i64 0)) := by
   unfold zbK
   rw [htold]
   have hb := HN2.out.2
   refine ⟨_, rfl, ⟨?_, fun g hg => by have := hb g hg; have := Hsz.out; omega⟩, Mod.toExt hE3⟩
   exact zU (zU HN2.out.1 dm (fun g hg h => by have := hb g hg; have := Hsz.out; omega)) em (fun g hg h => by have := hb g hg; have := Hsz.out; omega)
  simp [Leaves, settle, results, Tryz.results126, go_sem, t0, t1]
  exact hF
 go_wp2_with fail
 refine (ziP _ _ _ _ hS1.1).mono ?_
 rintro e w' ⟨rfl, rfl⟩
 have C0 := hJ c0
 have C1 := hJ c1
 clear c0 c1
 go_wp2
 obtain ⟨d0, d1, dm⟩ := zh5 (.slice none 0 0) (.int .i64 2) C0.out C1.out (by omega)
 obtain ⟨t0, g0⟩ := qD d0
 obtain ⟨t1, g1⟩ := qD d1
 have hE3 := hE1.trans dm (fun k _ h => by unfold zZ; omega)
 have hs3 := dm.size
 refine leaves_cons (f := 164) (args := #[.pointer (some ⟨w.heap.size, 0, none⟩), .pointer (some ⟨w.heap.size + 1, 0, none⟩)]) (by simp) (by simp [go_sem]) ?_
 refine (zfX _ _ 2 _ _ _ t0 g0 t1 g1 (by omega)).mono ?_
 rintro e u' w'' ⟨rfl, rfl, rfl⟩
 obtain ⟨q0, q1, q2⟩ := zcO (w := w) 2 t0 t1 hE3 (by have := Hsz.out; omega)
 have hF := Hfail.out 2 (by simp [ziL]) _ q2
 simp [Leaves, settle, results, Tryz.results126, go_sem, q0, q1]
 exact hF
end Go.Proofs.YtjhnlncgmejkcaaGreat
namespace Go.Proofs.YtjhnlncgmejkcaaGreat
set_option linter.unusedSimpArgs false
open Go.RowKit
def Str (P : Program) (t : TypeId) (k : Nat) : Prop := (∃ fs, P.underlying t = some (.struct fs)) ∧ (P.info? t).map (·.size) = some k
def put (cur : List Value) (o : Nat) (vs : List Value) : List Value := cur.take o ++ vs ++ cur.drop (o + vs.length)
theorem put_self (cur : List Value) : put cur 0 cur = cur := by simp [put]
section
variable {P : Program} {w : World} {t : TypeId} {k g o : Nat} {e : TypeId} {cur cs vs : List Value}
theorem str_agg (h : Str P t k) (w : World) : (isAgg t).run P w = .ok true w := by
 obtain ⟨⟨fs, h1⟩, _⟩ := h
 simp [isAgg, run_underlying h1]
theorem zlS (h : Str P t k) (w : World) : (sizeOf t).run P w = .ok k w := by
 obtain ⟨_, h2⟩ := h
 cases hq : P.info? t with
 | none => simp [hq] at h2
 | some i =>
  have hi : i.size = k := by simpa [hq] using h2
  simp [sizeOf, typeInfo, hq, hi]
theorem jE (hs : Str P t k) (hc : cs.length = k) (h : ∀ j u, cs[j]? = some u → w.cell? ⟨g, o + j, none⟩ = some u) : (Instr.loadAt t (.pointer (some ⟨g, o, none⟩))).run P w = .ok (.agg cs.toArray) w := by
 have h1 := run_loadCells_list (P := P) (w := w) ⟨g, o, none⟩ cs (fun j v hv => by rw [znS]; exact h j v hv)
 rw [hc] at h1
 simp [Instr.loadAt, loadVar, str_agg hs, zlS hs, h1, Instr.sureAddr]
theorem zF (hs : Str P t k) (hg : w.heap[g]? = some (.cells cur.toArray e (0, 0))) (hc : cs.length = k) (h : ∀ j u, cs[j]? = some u → cur[o + j]? = some u) : (Instr.loadAt t (.pointer (some ⟨g, o, none⟩))).run P w = .ok (.agg cs.toArray) w :=
 jE hs hc (fun j u hu => zB hg (h j u hu))
theorem zfZ (hs : Str P t k) (hg : w.heap[g]? = some (.cells cur.toArray e (0, 0))) (hc : vs.length = k) (hfit : o + k ≤ cur.length) (h1 : ∀ v ∈ vs, v.oneCell' = true) :
  (Instr.storeAt t (.pointer (some ⟨g, o, none⟩)) (.agg vs.toArray)).run P w = .ok () (w.setRow g (put cur o vs).toArray) := by
 have h := run_storeCells_at (P := P) g o e vs 0 cur.toArray w hg (by simpa [hc] using hfit) h1
 simp [Instr.storeAt, storeVar, Instr.sureAddr, zlS hs, Value.cells, hc]
 rw [h]
 simp [put]
theorem zaD (hs : Str P t k) (hg : w.heap[g]? = some (.cells cur.toArray e (0, 0))) (hc : cur.length = k) (h1 : ∀ v ∈ cur, v.oneCell' = true) :
  (Instr.storeAt t (.pointer (some ⟨g, 0, none⟩)) (.agg cur.toArray)).run P w = .ok () w := by
 rw [zfZ hs hg hc (by omega) h1, put_self, setRow_self w g cur.toArray e (0, 0) hg]
variable {ops : Array Oper} {rest : List Oper} {op : Oper} {a : Act} {w' : World} {Q : Exit → Act → World → Prop}
theorem zG (hgd : op.guard = none) (t : TypeId) (x : Operand) (ho : op.op = .load t x) (xv v : Value) (hx : a.eval x = xv) (hr : (Instr.loadAt t xv).run P w = .ok v w)
  (h : wpList P ops Q rest (a.put op.dst v) w) : wpList P ops Q (op :: rest) a w :=
 wpList_plain hgd fun _ hK => by
  unfold Oper.wp execOp
  simp only [ho, hx, Sem.run_bind, Sem.run_pure, hr, Result.andThen_ok]
  exact hK _ _ h
theorem zaJ (hgd : op.guard = none) (t : TypeId) (p x : Operand) (ho : op.op = .store t p x) (pv xv : Value) (hp : a.eval p = pv) (hx : a.eval x = xv) (hr : (Instr.storeAt t pv xv).run P w = .ok () w')
  (h : wpList P ops Q rest (a.put op.dst undef) w') : wpList P ops Q (op :: rest) a w :=
 wpList_plain hgd fun _ hK => by
  unfold Oper.wp execOp
  simp only [ho, hp, hx, Sem.run_bind, Sem.run_pure, hr, Result.andThen_ok]
  exact hK _ _ h
theorem zD (hgd : op.guard = none) (t : TypeId) (p x : Operand) (ho : op.op = .store t p x) (k g o : Nat) (vs : List Value) (hp : a.eval p = .pointer (some ⟨g, o, none⟩)) (hx : a.eval x = .agg vs.toArray) (hs : Str P t k)
  (e : TypeId) (cur cur' : List Value) (hg : w.heap[g]? = some (.cells cur.toArray e (0, 0))) (hc : vs.length = k) (hfit : o + k ≤ cur.length) (h1 : ∀ v ∈ vs, v.oneCell' = true) (hcur : put cur o vs = cur')
  (h : ∀ w', w'.heap[g]? = some (.cells cur'.toArray e (0, 0)) → Mod (fun k => k = g) w w' → w'.heap.size = w.heap.size → wpList P ops Q rest (a.put op.dst undef) w') : wpList P ops Q (op :: rest) a w := by
 refine zaJ hgd t p x ho _ _ hp hx (zfZ hs hg hc hfit h1) (h _ ?_ ?_ ?_)
 · rw [hcur]; exact setRow_heap w g _ _ e _ hg
 · exact ⟨rfl, rfl, rfl, by simp, fun k hk hn => setRow_other w g k _ hn⟩
 simp
end
end Go.Proofs.YtjhnlncgmejkcaaGreat
