-- laid by this session's own runner (wip/print2.py): not a printed file
import Derived.Test.YtjchggdekbnmnaaDoorQFnExactHeadTextx0
import Derived.Test.YtjchggdekbnmnaaDoorQFnExactHeadTextx1
import Derived.Test.YtjchggdekbnmnaaDoorQFnExactHeadTextx2
import Derived.Test.YtjchggdekbnmnaaDoorQFnExactHeadTextx3
import Derived.Test.YtjchggdekbnmnaaDoorQFnExactHeadTextx4
import Derived.Test.YtjchggdekbnmnaaDoorQFnExactHeadTextx5
namespace Go.Proofs.YtjchggdekbnmnaaDoor.QFnExactHeadText
open Go.RowKit Go.Proofs.YtjchggdekbnmnaaDoorW.PrintWords Go.Proofs.YtjchggdekbnmnaaDoorW.PrintLast Go.Proofs.YtjchggdekbnmnaaDoorW.PrintMore
attribute [local go_sem] max2_int min2_int max_two min_two max_three min_three max_four min_four   -- for this text's walks alone
set_option linter.unusedVariables false
set_option linter.unusedSimpArgs false

end Go.Proofs.YtjchggdekbnmnaaDoor.QFnExactHeadText
