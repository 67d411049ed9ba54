-- laid by this session's own runner (wip/print2.py): not a printed file
import Derived.Test.YtjchggdekbnmnaaDoorQFnExactDbResultx0
import Derived.Test.YtjchggdekbnmnaaDoorQFnExactDbResultx1
import Derived.Test.YtjchggdekbnmnaaDoorQFnExactDbResultx2
import Derived.Test.YtjchggdekbnmnaaDoorQFnExactDbResultx3
import Derived.Test.YtjchggdekbnmnaaDoorQFnExactDbResultx4
import Derived.Test.YtjchggdekbnmnaaDoorQFnExactDbResultx5
import Derived.Test.YtjchggdekbnmnaaDoorQFnExactDbResultx6
import Derived.Test.YtjchggdekbnmnaaDoorQFnExactDbResultx7
import Derived.Test.YtjchggdekbnmnaaDoorQFnExactDbResultx8
import Derived.Test.YtjchggdekbnmnaaDoorQFnExactDbResultx9
import Derived.Test.YtjchggdekbnmnaaDoorQFnExactDbResultx10
import Derived.Test.YtjchggdekbnmnaaDoorQFnExactDbResultx11
namespace Go.Proofs.YtjchggdekbnmnaaDoor.QFnExactDbResult
open Go.RowKit Go.Proofs.YtjchggdekbnmnaaDoorW.PrintWords Go.Proofs.YtjchggdekbnmnaaDoorW.PrintLast Go.Proofs.YtjchggdekbnmnaaDoorW.PrintMore
attribute [local go_sem] max2_int min2_int max_two min_two max_three min_three max_four min_four   -- for this text's walks alone
set_option linter.unusedVariables false
set_option linter.unusedSimpArgs false

end Go.Proofs.YtjchggdekbnmnaaDoor.QFnExactDbResult
