/-
 Entries that are read are well formed. No program is walked here. Conditions: none.
-/
import Derived.Test.YtfkacakbengboaaWireHrdP
import Derived.Test.YtfkacakbengboaaPackBits
namespace Go.Proofs.Ytfkacakbengboaa
set_option linter.unusedSimpArgs false

theorem wfloat_lt (r : RS) : r.float.1 < 18446744073709551616 := by
 unfold RS.float
 split
 ·
  simp
 split
 ·
  simp
 split
 ·
  simp
 ·
  rename_i h _
  have := num8_lt 8 (r.left.take 8) (by rw [List.length_take]; omega)
  simpa using this
theorem wtext_small (r : RS) : r.text.1.length ≤ 16384 := by
 rw [text_eq]
 split
 ·
  simp
 split
 ·
  simp
 split
 ·
  simp
 ·
  rw [List.length_take]; omega
theorem zero_size : (⟨#[]⟩ : ByteArray).size ≤ maxLen := by simp [maxLen, ByteArray.size]
theorem wval_ok (r : RS) : r.valP.1.ok := by
 have h1 := int_range r
 unfold RS.valP RS.val
 split
 ·
  split
  ·
   exact ⟨by unfold I64; simp, wfloat_lt _, zero_size⟩
  split
  ·
   refine ⟨by unfold I64; simp, by simp, ?_⟩
   have := wtext_small r.int.2
   simp only [ByteArray.size, List.size_toArray, maxLen]
   omega
  ·
   exact ⟨by unfold I64; simp only; omega, by simp, zero_size⟩
 ·
  exact ⟨by unfold I64; simp only; omega, by simp, zero_size⟩
theorem wint_ok (r : RS) : I64 r.int.1 := int_range r
theorem wconf_ok (r : RS) : r.confP.1.ok := ⟨wint_ok _, wint_ok _, wint_ok _, wint_ok _⟩
theorem zcall_ok : ACall.zero.ok := by simp [ACall.ok, ACmd.ok, AVal.ok, I64, ACall.zero, ACmd.zero, AVal.zero, maxLen, ByteArray.size]
theorem zconf_ok : AConf.zero.ok := by simp [AConf.ok, I64, AConf.zero]
theorem wcall_ok (r : RS) : r.callP.1.ok := by
 unfold RS.callP
 refine ⟨wint_ok _, wint_ok _, wint_ok _, ?_, wval_ok _, wval_ok _⟩
 have := wtext_small r.int.2.int.2.int.2
 simp only [ByteArray.size, List.size_toArray, maxLen]
 omega
theorem ent_ok (r : RS) : r.entP.1.ok := by
 unfold RS.entP
 simp only
 split
 ·
  exact ⟨wint_ok _, wint_ok _, zcall_ok, zconf_ok⟩
 split
 ·
  exact ⟨wint_ok _, wint_ok _, wcall_ok _, zconf_ok⟩
 split
 ·
  exact ⟨wint_ok _, wint_ok _, zcall_ok, wconf_ok _⟩
 ·
  exact ⟨wint_ok _, wint_ok _, zcall_ok, zconf_ok⟩
theorem hardP_ok (r : RS) (n : Int) : (r.hardP n).1.term = r.int.1 ∧ I64 (r.hardP n).1.term ∧ I64 (r.hardP n).1.vote ∧ I64 (r.hardP n).1.base ∧ I64 (r.hardP n).1.baseTerm ∧ (r.hardP n).1.conf.ok :=
 ⟨rfl, wint_ok _, wint_ok _, wint_ok _, wint_ok _, wconf_ok _⟩
end Go.Proofs.Ytfkacakbengboaa
