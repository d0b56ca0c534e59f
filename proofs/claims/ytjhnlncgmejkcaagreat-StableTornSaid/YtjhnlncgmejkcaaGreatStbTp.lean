/-
 Plain: what is no frame behind whole ones (the law StableTorn). No program is walked here. Conditions: as each theorem names them.
-/
import Derived.Test.YtjhnlncgmejkcaaGreatS25
import Derived.Test.YtjhnlncgmejkcaaGreatS3
namespace Go.Proofs.YtjhnlncgmejkcaaGreat
set_option linter.unusedSimpArgs false

def tornX : AEntry := ⟨1, 0, ACall.zero, AConf.zero⟩
theorem torn_ok : tornX.ok ∧ tornX.small := by
 unfold tornX AEntry.ok AEntry.small ACall.zero ACmd.zero AVal.zero AConf.zero ACall.ok ACmd.ok AVal.ok AConf.ok I64 maxLen
 decide
theorem torn_bytes : entryP tornX = ([2, 0], 0) := by decide +kernel
def tornB : List UInt8 := [157, 0, 0, 0, 3, 1, 2, 3, 4, 4, 2, 0]
theorem torn_cut : ∀ k, k < 12 → firstP (tornB.take k) = none := by decide +kernel
theorem torn_more (more : List UInt8) : firstP (0 :: more) = none := by
 unfold firstP
 rw [if_pos (.inr (by simp))]
/-- Behind an append of what is no frame: it is opened as before. -/
theorem StP.torn {D : ADisk} {g first : AHard} {room : Int} {m : Nat} {r : List UInt8} (h : StP D g room m) (hr : firstP r = none) (hr0 : r ≠ []) (hok : ({ D with file := D.file ++ r } : ADisk).ok) (hc : checkH first = true) :
  ∃ D2, openP { D with file := D.file ++ r } first = (D2, some g, 0) ∧ D2.file = D.file ∧ StP D2 g room m := by
 have h1 := open_torn (D := { D with file := D.file ++ r }) (g := g) (first := first) (r := r) (f := D.file) h.wh.on h.wh.trip h.kp rfl hr hok hc (fun e => absurd e hr0)
 exact ⟨_, h1, rfl, ⟨⟨h.wh.on, h.wh.trip, rfl⟩, h.kp, h.hd, h.rm, h.lg⟩⟩
end Go.Proofs.YtjhnlncgmejkcaaGreat
