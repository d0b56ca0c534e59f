/-
  Contracts of the small functions of the statements' own package (skerrylaw02): wakes, write, got, heavy. Conditions: as each theorem names them.
-/
import Derived.Test.YtmndoppeoinkcaaKeep
namespace Go.Proofs.Ytmndoppeoinkcaa
open Go.RowKit
attribute [local go_sem] call_frombits call_bits

theorem Wr.new (w : World) (t : TypeId) : Wr (w.alloc (.cells #[.slice none 0 0, .bool false] t)) (fun k => w.heap.size ≤ k) w.heap.size [] false :=
  ⟨_, t, heap_alloc_new w _, World.ownsRow_nil _ _ _ _, Nat.le_refl _, by simp [Value.ownBlock]⟩
/-- All that was made since there were N blocks. -/
abbrev Since (N : Nat) : Nat → Prop := fun k => N ≤ k
theorem Wr.since {w w' : World} {N b : Nat} {bs : List UInt8} {long : Bool} (h : Wr w' (Nw (Since N) w) b bs long) (hN : N ≤ w.heap.size) : Wr w' (Since N) b bs long :=
  h.mono fun _ _ h => h.elim id (fun h => Nat.le_trans hN h)
theorem Mod.self {S : Nat → Prop} {a b c : World} (h : Mod S a b) (h' : Mod S b c) : Mod S a c := h.trans h' (fun _ _ => id)
theorem Mod.toExt {w w' : World} (h : Mod (Since w.heap.size) w w') : Ext w w' := Mod.mono h (fun _ hk h => by unfold Since at h; omega)
theorem NewB.sl {w w' : World} {v : Value} {bs : List UInt8} (h : NewB w w' v bs) : Byt w' (Since w.heap.size) v bs := Sl.of_own h.1 h.2

set_option maxRecDepth 100000 in
set_option maxHeartbeats 400000 in
theorem copysign_any (w : World) : Calls Try.prog 37 #[.float .f64 0, .float .f64 13830554455654793216] w fun e w' => e = .returned (.float .f64 9223372036854775808) ∧ w = w' := by
  go_enter Try.func37, Try.ntmps37
  go_wp2
  go_ret
  exact ⟨by kernel_rfl, rfl⟩

def wakeBytes : List UInt8 := [128, 1, 128, 0, 0, 0, 0, 0, 0, 0]
theorem wake_eq : encInt 64 ++ encFloat 9223372036854775808 = wakeBytes := by kernel_rfl
set_option maxRecDepth 100000 in
set_option maxHeartbeats 400000 in
theorem wakes_any (w : World) : Calls Try.prog 16 #[] w fun e w' => e = .returned (.bool true) ∧ Ext w w' := by
  go_enter Try.func16, Try.ntmps16
  go_wp2_with fail
  refine (w_int _ _ _ _ _ 64 (Wr.new w _) (by simp) (by omega) (by omega)).mono ?_
  rintro e w1 ⟨rfl, hW1, hm1⟩
  have hW1' := hW1.since (by simp)
  go_wp2_with (go_at_call 37; refine (copysign_any _).mono ?_; rintro e w' ⟨rfl, rfl⟩)
  have hs1 : w.heap.size ≤ w1.heap.size := by have := hm1.size; simp at this; omega
  refine (w_float _ _ _ _ _ _ hW1' (by have := encInt_len 64; simp; omega)).mono ?_
  rintro e w2 ⟨rfl, hW2, hm2⟩
  go_wp2_with fail
  refine (w_bytes _ _ _ _ hW2 (by simp [wake_eq, wakeBytes])).mono ?_
  rintro e w3 ⟨v, rfl, hN, hE⟩
  rw [List.nil_append, wake_eq] at hN
  have hx : Ext w w3 := Mod.toExt ((((Mod.refl _ w).alloc _).self (hm1.self hm2)).ext hE)
  have hl : Byt (w3.alloc (.cells (wakeBytes.map B).toArray 5)) (Since 0) (.slice (some ⟨w3.heap.size, 0, none⟩) 10 10) wakeBytes := by
    refine Sl.of_own (base := 0) (e := 5) (World.ownsRow_lit w3 _ 10 (Nat.zero_le _) (by simp [maxLen]) rfl) (fun _ _ => Nat.zero_le _)
  go_wp2_with fail
  refine (k_bytes _ _ _ _ _ _ _ (hN.sl.alloc _) hl).mono ?_
  rintro e w4 ⟨rfl, hE4⟩
  go_wp2
  go_ret
  exact ⟨rfl, ((hx.alloc _).ext hE4)⟩

/-- One thing that is written: as the statements' Item. -/
structure It where
  kind : Int
  n : Int
  is : Bool
  x : Nat
  tv : Value
  t : List UInt8
def It.cells (i : It) : List Value := [.int .i64 i.kind, .int .i64 i.n, .bool i.is, .float .f64 i.x, i.tv]
def It.ok (w : World) (T : Nat → Prop) (i : It) : Prop :=
  Byt w T i.tv i.t ∧ (-9223372036854775808 ≤ i.kind ∧ i.kind ≤ 9223372036854775807) ∧ (-9223372036854775808 ≤ i.n ∧ i.n ≤ 9223372036854775807)
theorem It.ok.mod {w w' : World} {S T : Nat → Prop} {i : It} (h : i.ok w T) (hm : Mod S w w') (hd : ∀ g, T g → ¬ S g) : i.ok w' T := ⟨h.1.mod hm hd, h.2⟩
/-- What is written of it. -/
def It.bytes (i : It) : List UInt8 :=
  if i.kind % 4 = 0 then encInt i.n else if i.kind % 4 = 1 then encMark i.is else if i.kind % 4 = 2 then encFloat i.x else if 16384 < i.t.length then [] else encText i.t
def It.long (i : It) : Bool := decide (i.kind % 4 = 3 ∧ 16384 < i.t.length)

theorem kind_mod (k : Int) : (IntKind.u64.wrap k).tmod 4 = k % 4 := by rw [wrap_u64, Int.tmod_eq_emod_of_nonneg (by omega)]; omega

theorem encFloat_len (x : Nat) : (encFloat x).length = 8 := by simp [encFloat, hib]
theorem bytes_len (i : It) : i.bytes.length ≤ 16400 := by
  unfold It.bytes
  have h1 := encInt_len i.n
  have h2 := encFloat_len i.x
  have h3 := encInt_len i.t.length
  split
  · omega
  · split
    · unfold encMark; split <;> simp
    · split
      · omega
      · split
        · simp
        · unfold encText; simp; omega

def WriteOk (w : World) (S : Nat → Prop) (b : Nat) (bs : List UInt8) (long : Bool) (i : It) (e : Ending) (w' : World) : Prop :=
  e = .returned (.tuple #[]) ∧ Wr w' (Nw S w) b (bs ++ i.bytes) (long || i.long) ∧ Mod S w w'
set_option maxRecDepth 100000 in
set_option maxHeartbeats 400000 in
theorem write_any (w : World) (S T : Nat → Prop) (b : Nat) (bs : List UInt8) (long : Bool) (i : It) (h : Wr w S b bs long) (hl : bs.length ≤ 900000000)
    (ho : i.ok w T) (hd : ∀ g, T g → ¬ S g) :
    Calls Try.prog 11 #[.pointer (some ⟨b, 0, none⟩), .agg #[.int .i64 i.kind, .int .i64 i.n, .bool i.is, .float .f64 i.x, i.tv]] w (WriteOk w S b bs long i) := by
  obtain ⟨ht, ⟨k0, k1⟩, ⟨n0, n1⟩⟩ := ho
  have hk := kind_mod i.kind
  have hE : Ext w (w.alloc (.cells #[.int .i64 i.kind, .int .i64 i.n, .bool i.is, .float .f64 i.x, i.tv] 31)) := (Mod.refl _ w).alloc _
  have hfin : ∀ (e : Ending) w' bs' l', (e = .returned (.tuple #[]) ∧ Wr w' (Nw S (w.alloc (.cells #[.int .i64 i.kind, .int .i64 i.n, .bool i.is, .float .f64 i.x, i.tv] 31))) b bs' l' ∧ Mod S (w.alloc (.cells #[.int .i64 i.kind, .int .i64 i.n, .bool i.is, .float .f64 i.x, i.tv] 31)) w') →
      bs' = bs ++ i.bytes → l' = (long || i.long) → WriteOk w S b bs long i (.returned (.tuple #[])) w' := by
    rintro e w' bs' l' ⟨rfl, h1, h2⟩ rfl rfl
    exact ⟨rfl, h1.mono (fun k _ h => h.imp id (fun h => by simp at h; omega)), (Mod.mono hE (fun _ _ h => h.elim)).self h2⟩
  have Hfin := Lib.hid hfin
  have hW : Wr (w.alloc (.cells #[.int .i64 i.kind, .int .i64 i.n, .bool i.is, .float .f64 i.x, i.tv] 31)) S b bs long := h.mod (T := fun _ => False) hE (fun _ _ => id)
  have ht' : Byt (w.alloc (.cells #[.int .i64 i.kind, .int .i64 i.n, .bool i.is, .float .f64 i.x, i.tv] 31)) T i.tv i.t := ht.alloc _
  clear hfin hE
  have : i.kind % 4 = 0 ∨ i.kind % 4 = 1 ∨ i.kind % 4 = 2 ∨ i.kind % 4 = 3 := by omega
  rcases this with h4 | h4 | h4 | h4
  · rw [h4] at hk
    have Hb : Hid (encInt i.n = i.bytes) := Lib.hid (by simp [It.bytes, h4])
    have Hl : Hid (i.long = false) := Lib.hid (by simp [It.long, h4])
    clear h4
    go_enter Try.func11, Try.ntmps11
    go_wp2_with fail
    refine (w_int _ _ _ _ _ i.n hW (by omega) n0 n1).mono ?_
    rintro e w1 h1
    have h2 := Hfin.out _ _ _ _ h1 (by rw [Hb.out]) (by rw [Hl.out]; simp)
    obtain ⟨rfl, _⟩ := h1
    go_wp2
    go_end0
    exact h2
  · rw [h4] at hk
    have Hb : Hid (encMark i.is = i.bytes) := Lib.hid (by simp [It.bytes, h4])
    have Hl : Hid (i.long = false) := Lib.hid (by simp [It.long, h4])
    clear h4
    go_enter Try.func11, Try.ntmps11
    go_wp2_with fail
    refine (w_mark _ _ _ _ _ i.is hW (by omega)).mono ?_
    rintro e w1 h1
    have h2 := Hfin.out _ _ _ _ h1 (by rw [Hb.out]) (by rw [Hl.out]; simp)
    obtain ⟨rfl, _⟩ := h1
    go_wp2
    go_end0
    exact h2
  · rw [h4] at hk
    have Hb : Hid (encFloat i.x = i.bytes) := Lib.hid (by simp [It.bytes, h4])
    have Hl : Hid (i.long = false) := Lib.hid (by simp [It.long, h4])
    clear h4
    go_enter Try.func11, Try.ntmps11
    go_wp2_with fail
    refine (w_float _ _ _ _ _ i.x hW (by omega)).mono ?_
    rintro e w1 h1
    have h2 := Hfin.out _ _ _ _ h1 (by rw [Hb.out]) (by rw [Hl.out]; simp)
    obtain ⟨rfl, _⟩ := h1
    go_wp2
    go_end0
    exact h2
  · rw [h4] at hk
    by_cases h5 : 16384 < i.t.length
    · have Hb : Hid (i.bytes = []) := Lib.hid (by simp [It.bytes, h4, h5])
      have Hl : Hid (i.long = true) := Lib.hid (by simp [It.long, h4, h5])
      clear h4
      go_enter Try.func11, Try.ntmps11
      go_wp2_with fail
      refine (w_text_long _ _ _ _ _ _ _ _ hW ht' h5).mono ?_
      rintro e w1 h1
      have h2 := Hfin.out _ _ _ _ h1 (by rw [Hb.out]; simp) (by rw [Hl.out]; simp)
      obtain ⟨rfl, _⟩ := h1
      go_wp2
      go_end0
      exact h2
    · have Hb : Hid (i.bytes = encText i.t) := Lib.hid (by simp [It.bytes, h4, h5])
      have Hl : Hid (i.long = false) := Lib.hid (by simp [It.long, h4, h5])
      clear h4
      go_enter Try.func11, Try.ntmps11
      go_wp2_with fail
      refine (w_text _ _ _ _ _ _ _ _ hW hl ht' hd (by omega)).mono ?_
      rintro e w1 h1
      have h2 := Hfin.out _ _ _ _ h1 (by rw [Hb.out]) (by rw [Hl.out]; simp)
      obtain ⟨rfl, _⟩ := h1
      go_wp2
      go_end0
      exact h2
end Go.Proofs.Ytmndoppeoinkcaa
