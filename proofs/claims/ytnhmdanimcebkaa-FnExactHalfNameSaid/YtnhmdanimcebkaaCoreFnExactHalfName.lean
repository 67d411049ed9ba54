/- Proved: the law FnExactHalfName, called with any half, answers true. -/
import Derived.Test.YtnhmdanimcebkaaHalfShowFnExactHalfName
import Derived.Test.YtnhmdanimcebkaaBytes
set_option linter.unusedVariables false
set_option linter.unusedSimpArgs false
namespace Go.Proofs.Ytnhmdanimcebkaa.QFnExactHalfName
open Go Go.RowKit Go.Proofs.Ytnhmdanimcebkaa.Bytes Go.Proofs.YtnhmdanimcebkaaW.PrintWords

theorem show_small (n o t i f : Int) : (showB n o t i f).size ≤ 4 := by
  unfold showB
  split
  · split <;> split <;> decide
  · decide
theorem name_both (n o t i f : Int) : ∃ r, spec_HalfName.f 2 n o t i f = some r ∧ impl_HalfName.f 2 n o t i f = some r := by
  unfold spec_HalfName.f impl_HalfName.f
  rw [show_spec, show_impl]
  simp only [Option.bind_some]
  have hs := show_small n o t i f
  generalize showB n o t i f = S at hs
  have h5 : S.size + 4 ≤ 9223372036854775807 := by omega
  have h6 : S.size + 3 ≤ 9223372036854775807 := by omega
  have h7 : (S ++ (⟨#[43, 111, 117, 116]⟩ : ByteArray)).size + 3 ≤ 9223372036854775807 := by
    rw [ByteArray.size_append]
    have : (⟨#[43, 111, 117, 116]⟩ : ByteArray).size = 4 := rfl
    omega
  have h8 : ¬ (S ++ (⟨#[43, 111, 117, 116]⟩ : ByteArray)).toList = ([] : List UInt8) := by
    rw [tl_append, tl (⟨#[43, 111, 117, 116]⟩ : ByteArray)]
    simp
  by_cases h1 : S.toList = ([] : List UInt8)
  · have e : S = (⟨#[]⟩ : ByteArray) := tl_inj (by rw [h1, tl])
    subst e
    refine ⟨(⟨#[]⟩ : ByteArray), ?_, by rw [if_pos h1]⟩
    rw [if_pos h1]
    simp only [spec_HalfName.j0]
    rw [if_neg (by decide), if_pos h1]
  · rw [if_neg h1, if_neg h1]
    by_cases h2 : o = 0
    · rw [if_pos h2]
      have e : (o != 0) = false := by simp [h2]
      rw [e]
      simp only [spec_HalfName.j0]
      rw [if_neg (by decide), if_neg h1]
      by_cases h3 : i = 0
      · exact ⟨_, by rw [if_pos h3], by rw [if_pos h3]⟩
      · exact ⟨_, by rw [if_neg h3, if_pos h6], by rw [if_neg h3, if_pos h6]⟩
    · rw [if_neg h2, if_pos h5]
      have e : (o != 0) = true := by simp [h2]
      rw [e]
      simp only [spec_HalfName.j0]
      rw [if_pos trivial, if_pos h5, if_neg h8]
      by_cases h3 : i = 0
      · exact ⟨_, by rw [if_pos h3], by rw [if_pos h3]⟩
      · exact ⟨_, by rw [if_neg h3, if_pos h7], by rw [if_neg h3, if_pos h7]⟩
theorem tells (n o t i f : Int) : laws_FnExactHalfName.f 2 n o t i f = some true := by
  unfold laws_FnExactHalfName.f laws_toHalf.f
  obtain ⟨r, h1, h2⟩ := name_both n o t i f
  simp only [Option.bind_some, h1, h2, if_true]
theorem core (a0 a1 a2 a3 a4 : Int) (w0 : (Lit.int .i64 a0).wf = true) (w1 : (Lit.int .i64 a1).wf = true) (w2 : (Lit.int .i64 a2).wf = true) (w3 : (Lit.int .i64 a3).wf = true) (w4 : (Lit.int .i64 a4).wf = true) (w : World) :
    Calls Try.prog 12 #[.agg #[.int .i64 a0, .int .i64 a1, .int .i64 a2, .int .i64 a3, .int .i64 a4]] w fun e w' => e = .returned (.bool true) ∧ Below w.heap.size w w' :=
  laws_FnExactHalfName.calls 2 a0 a1 a2 a3 a4 true w (tells a0 a1 a2 a3 a4) rfl
end Go.Proofs.Ytnhmdanimcebkaa.QFnExactHalfName
