/- Proved: laws.FnExactPutText, as printed, tells true at every text. -/
import Derived.Test.YtnhmdanimcebkaaPFnExactPutTextx1
import Derived.Test.YtnhmdanimcebkaaNumFnExactPutText
import Derived.Test.YtnhmdanimcebkaaLongFnExactPutText
namespace Go.Proofs.Ytnhmdanimcebkaa.Pure
open Go.RowKit Go.Proofs.Ytnhmdanimcebkaa.PFnExactPutText Go.Proofs.YtnhmdanimcebkaaW.PrintWords Go.Proofs.YtnhmdanimcebkaaW.PrintLast

theorem FnExactPutText : laws_FnExactPutText.Pure := by
  intro a ha
  refine ⟨11, ?_⟩
  unfold laws_FnExactPutText.f
  by_cases h : (a.size : Int) > 1048576
  · rw [if_pos h]
  · rw [if_neg h]
    unfold spec_PutText.f impl_PutText.f
    rw [long_one a (by omega), Option.bind_some]
    by_cases h2 : (a.size : Int) > 20000
    · simp only [if_pos h2, decide_eq_true h2, Option.bind_some, if_true]
    · rw [if_neg h2, if_neg (by simp only [decide_eq_true_eq]; exact h2), put_spec (by omega) (by omega) (by omega), put_impl (by omega) (by omega) (by omega)]
      simp only [Option.bind_some]
      have hs : (putNum (a.size : Int)).size + a.size ≤ 9223372036854775807 := by
        have h1 := putNum_le (a.size : Int)
        omega
      simp only [if_pos hs, Option.bind_some, if_true]
end Go.Proofs.Ytnhmdanimcebkaa.Pure
