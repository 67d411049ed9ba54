-- laid by this session's own runner (wip/print2.py): not a printed file
import Derived.Test.YtnhmdanimcebkaaQFnExactHalfDropx0
import Derived.Test.YtnhmdanimcebkaaQFnExactHalfDropx1
import Derived.Test.YtnhmdanimcebkaaQFnExactHalfDropx2
import Derived.Test.YtnhmdanimcebkaaQFnExactHalfDropx3
namespace Go.Proofs.Ytnhmdanimcebkaa.QFnExactHalfDrop
open Go.RowKit Go.Proofs.YtnhmdanimcebkaaW.PrintWords Go.Proofs.YtnhmdanimcebkaaW.PrintLast Go.Proofs.YtnhmdanimcebkaaW.PrintMore
attribute [local go_sem] max2_int min2_int max_two min_two max_three min_three max_four min_four   -- for this text's walks alone
set_option linter.unusedVariables false
set_option linter.unusedSimpArgs false

end Go.Proofs.Ytnhmdanimcebkaa.QFnExactHalfDrop
