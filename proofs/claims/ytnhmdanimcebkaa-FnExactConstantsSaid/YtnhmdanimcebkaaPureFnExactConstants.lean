/- Proved: laws.FnExactConstants, as printed, tells true. No condition. -/
import Derived.Test.YtnhmdanimcebkaaPFnExactConstantsx1
namespace Go.Proofs.Ytnhmdanimcebkaa.Pure
open Go.RowKit Go.Proofs.Ytnhmdanimcebkaa.PFnExactConstants Go.Proofs.YtnhmdanimcebkaaW.PrintWords Go.Proofs.YtnhmdanimcebkaaW.PrintLast

/-- YOURS: laws_FnExactConstants.f  = some true
What it reaches (each with k first where it has rounds; `.mono`: more rounds tell the same; `.l0`, ..: its loops, with `.mono_l`): laws_FnExactConstants.f -/
theorem FnExactConstants : laws_FnExactConstants.Pure := by
  rfl

end Go.Proofs.Ytnhmdanimcebkaa.Pure
