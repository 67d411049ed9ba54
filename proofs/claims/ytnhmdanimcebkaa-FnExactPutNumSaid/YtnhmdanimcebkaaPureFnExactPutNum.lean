/- Proved: laws.FnExactPutNum, as printed, tells true at every whole number of 64 bits. -/
import Derived.Test.YtnhmdanimcebkaaPFnExactPutNumx1
import Derived.Test.YtnhmdanimcebkaaNumFnExactPutNum
namespace Go.Proofs.Ytnhmdanimcebkaa.Pure
open Go.RowKit Go.Proofs.Ytnhmdanimcebkaa.PFnExactPutNum Go.Proofs.YtnhmdanimcebkaaW.PrintWords Go.Proofs.YtnhmdanimcebkaaW.PrintLast

theorem FnExactPutNum : laws_FnExactPutNum.Pure := by
  intro n hn
  obtain ⟨h0, h1⟩ := of_wf hn
  refine ⟨11, ?_⟩
  unfold laws_FnExactPutNum.f
  rw [put_spec h0 h1 (by omega), put_impl h0 h1 (by omega)]
  simp

end Go.Proofs.Ytnhmdanimcebkaa.Pure
