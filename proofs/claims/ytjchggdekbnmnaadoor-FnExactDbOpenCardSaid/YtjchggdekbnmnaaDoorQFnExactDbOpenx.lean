-- laid by this session's own runner (wip/print2.py): not a printed file
import Derived.Test.YtjchggdekbnmnaaDoorQFnExactDbOpenx0
import Derived.Test.YtjchggdekbnmnaaDoorQFnExactDbOpenx1
import Derived.Test.YtjchggdekbnmnaaDoorQFnExactDbOpenx2
import Derived.Test.YtjchggdekbnmnaaDoorQFnExactDbOpenx3
import Derived.Test.YtjchggdekbnmnaaDoorQFnExactDbOpenx4
import Derived.Test.YtjchggdekbnmnaaDoorQFnExactDbOpenx5
import Derived.Test.YtjchggdekbnmnaaDoorQFnExactDbOpenx6
import Derived.Test.YtjchggdekbnmnaaDoorQFnExactDbOpenx7
import Derived.Test.YtjchggdekbnmnaaDoorQFnExactDbOpenx8
import Derived.Test.YtjchggdekbnmnaaDoorQFnExactDbOpenx9
import Derived.Test.YtjchggdekbnmnaaDoorQFnExactDbOpenx10
namespace Go.Proofs.YtjchggdekbnmnaaDoor.QFnExactDbOpen
open Go.RowKit Go.Proofs.YtjchggdekbnmnaaDoorW.PrintWords Go.Proofs.YtjchggdekbnmnaaDoorW.PrintLast Go.Proofs.YtjchggdekbnmnaaDoorW.PrintMore
attribute [local go_sem] max2_int min2_int max_two min_two max_three min_three max_four min_four   -- for this text's walks alone
set_option linter.unusedVariables false
set_option linter.unusedSimpArgs false

end Go.Proofs.YtjchggdekbnmnaaDoor.QFnExactDbOpen
