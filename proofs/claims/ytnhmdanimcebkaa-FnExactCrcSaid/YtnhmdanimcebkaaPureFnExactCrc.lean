/- Proved: laws.FnExactCrc, as walked, tells true at every text. -/
import Derived.Test.YtnhmdanimcebkaaSealLessFnExactCrc
namespace Go.Proofs.Ytnhmdanimcebkaa.Pure
open Go.RowKit Go.Proofs.Ytnhmdanimcebkaa.QFnExactCrc Go.Proofs.YtnhmdanimcebkaaW.PrintWords

theorem FnExactCrc : laws_FnExactCrc.Pure := by
  intro a ha
  refine ⟨10 * a.size + 2, ?_⟩
  unfold laws_FnExactCrc.f
  by_cases h : (a.size : Int) > 1048576
  · rw [if_pos h]
  · rw [if_neg h]
    unfold spec_Crc.f
    by_cases h2 : (a.size : Int) > 20000
    · rw [if_pos h2]
      unfold impl_Crc.f
      rw [long_one a (by omega)]
      simp only [Option.bind_some, decide_eq_true h2, if_true]
    · rw [if_neg h2, spec_crc0 a (by omega) (by omega), impl_crc a (by omega) (by omega)]
      simp
end Go.Proofs.Ytnhmdanimcebkaa.Pure
