-- laid by this session's own runner (wip/print2.py): not a printed file
import Derived.Test.YtjchggdekbnmnaaDoorQFnExactDialbackRightx0
import Derived.Test.YtjchggdekbnmnaaDoorQFnExactDialbackRightx1
import Derived.Test.YtjchggdekbnmnaaDoorQFnExactDialbackRightx2
import Derived.Test.YtjchggdekbnmnaaDoorQFnExactDialbackRightx3
import Derived.Test.YtjchggdekbnmnaaDoorQFnExactDialbackRightx4
import Derived.Test.YtjchggdekbnmnaaDoorQFnExactDialbackRightx5
import Derived.Test.YtjchggdekbnmnaaDoorQFnExactDialbackRightx6
import Derived.Test.YtjchggdekbnmnaaDoorQFnExactDialbackRightx7
namespace Go.Proofs.YtjchggdekbnmnaaDoor.QFnExactDialbackRight
open Go.RowKit Go.Proofs.YtjchggdekbnmnaaDoorW.PrintWords Go.Proofs.YtjchggdekbnmnaaDoorW.PrintLast Go.Proofs.YtjchggdekbnmnaaDoorW.PrintMore
attribute [local go_sem] max2_int min2_int max_two min_two max_three min_three max_four min_four   -- for this text's walks alone
set_option linter.unusedVariables false
set_option linter.unusedSimpArgs false

end Go.Proofs.YtjchggdekbnmnaaDoor.QFnExactDialbackRight
