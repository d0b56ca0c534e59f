/-
  Contracts of skerrylaw02.got and skerrylaw02.heavy. Conditions: as each theorem names them.
-/
import Derived.Test.YtmndoppeoinkcaaPackLaw
namespace Go.Proofs.Ytmndoppeoinkcaa
open Go.RowKit

/-- What is read where an item stands: whether it is that one, and the reader behind it. -/
def It.read (i : It) (r : RS) : Bool × RS :=
  if i.kind % 4 = 0 then (r.int.1 == i.n, r.int.2) else if i.kind % 4 = 1 then (r.mark.1 == i.is, r.mark.2) else
  if i.kind % 4 = 2 then (sameF r.float.1 i.x, r.float.2) else (r.text.1 == i.t, r.text.2)

def GotOk (w : World) (S : Nat → Prop) (b : Nat) (r : RS) (i : It) (e : Ending) (w' : World) : Prop :=
  e = .returned (.bool (i.read r).1) ∧ Rd w' S b (i.read r).2 ∧ Mod S w w'
set_option maxRecDepth 100000 in
set_option maxHeartbeats 400000 in
theorem got_any (w : World) (S T : Nat → Prop) (b : Nat) (r : RS) (i : It) (h : Rd w S b r) (hS : ∀ k, S k → k < w.heap.size)
    (ho : i.ok w T) (hd : ∀ g, T g → ¬ S g) :
    Calls Try.prog 33 #[.pointer (some ⟨b, 0, none⟩), .agg #[.int .i64 i.kind, .int .i64 i.n, .bool i.is, .float .f64 i.x, i.tv]] w (GotOk w S b r i) := by
  obtain ⟨ht, ⟨k0, k1⟩, ⟨n0, n1⟩⟩ := ho
  have hk := kind_mod i.kind
  obtain ⟨wb, hwb⟩ : ∃ wb, wb = (w.alloc (.cells #[.int .i64 i.kind, .int .i64 i.n, .bool i.is, .float .f64 i.x, i.tv] 31)).drew := ⟨_, rfl⟩
  have hE : Ext w wb := by rw [hwb]; exact ((Mod.refl _ w).alloc _).drew
  have hR : Rd wb S b r := h.mod hE (fun _ _ => id)
  have ht' : Byt wb T i.tv i.t := ht.ext hE
  have hfin : ∀ (e : Ending) w' v r', (e = .returned (.bool v) ∧ Rd w' S b r' ∧ Mod S wb w') → (v, r') = i.read r → GotOk w S b r i e w' := by
    rintro e w' v r' ⟨rfl, h1, h2⟩ h3
    unfold GotOk
    rw [← h3]
    exact ⟨rfl, h1, (Mod.mono hE (fun _ _ h => h.elim)).self h2⟩
  have Hfin := Lib.hid hfin
  have hcs : ∀ w1, Mod S wb w1 → ∀ j v, (#[.int .i64 i.kind, .int .i64 i.n, .bool i.is, .float .f64 i.x, i.tv] : Array Value)[j]? = some v → w1.cell? ⟨w.heap.size, j, none⟩ = some v := by
    intro w1 hm j v hv
    refine hm.cell ?_ (fun hs => by have := hS _ hs; simp at this)
    rw [hwb]
    show (w.alloc _).cell? _ = _
    rw [cell_of_row _ _ _ _ _ _ (heap_alloc_new w _)]
    exact hv
  have Hwb := Lib.hid hwb
  clear hfin hwb
  have : i.kind % 4 = 0 ∨ i.kind % 4 = 1 ∨ i.kind % 4 = 2 ∨ i.kind % 4 = 3 := by omega
  rcases this with h4 | h4 | h4 | h4
  · rw [h4] at hk
    have Hr : Hid ((r.int.1 == i.n, r.int.2) = i.read r) := Lib.hid (by simp [It.read, h4])
    clear h4
    go_enter Try.func33, Try.ntmps33
    go_wp2_with fail
    go_region_held3 (fun W => W.cell? ⟨w.heap.size, 1, none⟩ = some (.int .i64 i.n)) (first | go_keep | exact hx)
      ((go_at_call 23
        rw [← Hwb.out]
        refine (r_int _ S b r hR).mono ?_
        rintro e w1 ⟨rfl, hR1, hm1⟩
        have hx : w1.cell? ⟨w.heap.size, 1, none⟩ = some (.int .i64 i.n) := hcs w1 hm1 _ _ rfl))
    have hF := Hfin.out _ w1 _ _ ⟨rfl, hR1, hm1⟩ Hr.out
    go_wp2
    go_ret
    exact hF
  · rw [h4] at hk
    have Hr : Hid ((r.mark.1 == i.is, r.mark.2) = i.read r) := Lib.hid (by simp [It.read, h4])
    clear h4
    go_enter Try.func33, Try.ntmps33
    go_wp2_with fail
    go_region_held3 (fun W => W.cell? ⟨w.heap.size, 2, none⟩ = some (.bool i.is)) (first | go_keep | exact hx)
      ((go_at_call 29
        rw [← Hwb.out]
        refine (r_mark _ S b r hR).mono ?_
        rintro e w1 ⟨rfl, hR1, hm1⟩
        have hx : w1.cell? ⟨w.heap.size, 2, none⟩ = some (.bool i.is) := hcs w1 hm1 _ _ rfl))
    have hF := Hfin.out _ w1 _ _ ⟨rfl, hR1, hm1⟩ Hr.out
    go_wp2
    go_ret
    exact hF
  · rw [h4] at hk
    have Hr : Hid ((sameF r.float.1 i.x, r.float.2) = i.read r) := Lib.hid (by simp [It.read, h4])
    clear h4
    go_enter Try.func33, Try.ntmps33
    go_wp2_with fail
    go_region_held3 (fun W => W.cell? ⟨w.heap.size, 3, none⟩ = some (.float .f64 i.x)) (first | go_keep | exact hx)
      (first
        | (go_at_call 22
           rw [← Hwb.out]
           refine (r_float _ S b r hR).mono ?_
           rintro e w1 ⟨rfl, hR1, hm1⟩
           have hx : w1.cell? ⟨w.heap.size, 3, none⟩ = some (.float .f64 i.x) := hcs w1 hm1 _ _ rfl)
        | (go_at_call 21
           refine (k_float _ _ _).mono ?_
           rintro e w2 ⟨rfl, rfl⟩))
    have hF := Hfin.out _ w1 _ _ ⟨rfl, hR1, hm1⟩ Hr.out
    go_wp2
    go_ret
    exact hF
  · rw [h4] at hk
    have Hr : Hid ((r.text.1 == i.t, r.text.2) = i.read r) := Lib.hid (by simp [It.read, h4])
    clear h4
    go_enter Try.func33, Try.ntmps33
    go_wp2_with fail
    go_region_held3 (fun W => W.cell? ⟨w.heap.size, 4, none⟩ = some i.tv) (first | go_keep | exact hx | exact hx2)
      (first
        | (go_at_call 30
           rw [← Hwb.out]
           refine (r_text _ S b r hR (fun k hk => Nat.lt_of_lt_of_le (hS k hk) hE.size)).mono ?_
           rintro e w1 ⟨v, rfl, hN1, hR1, hm1⟩
           have hx : w1.cell? ⟨w.heap.size, 4, none⟩ = some i.tv := hcs w1 hm1 _ _ rfl)
        | (go_at_call 12
           refine (k_bytes _ _ _ _ _ _ _ hN1.sl (ht'.mod hm1 hd)).mono ?_
           rintro e w2 ⟨rfl, hE2⟩
           have hx2 : w2.cell? ⟨w.heap.size, 4, none⟩ = some i.tv := hcs w2 (hm1.ext hE2) _ _ rfl))
    have hF := Hfin.out _ w2 _ _ ⟨rfl, hR1.mod hE2 (fun _ _ => id), hm1.ext hE2⟩ Hr.out
    go_wp2
    go_ret
    exact hF
end Go.Proofs.Ytmndoppeoinkcaa
