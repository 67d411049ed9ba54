-- laid by this session's own runner (wip/print2.py): not a printed file
import Derived.Test.YtjchggdekbnmnaaDoorQFnExactDbVerifiedx0
import Derived.Test.YtjchggdekbnmnaaDoorQFnExactDbVerifiedx1
import Derived.Test.YtjchggdekbnmnaaDoorQFnExactDbVerifiedx2
import Derived.Test.YtjchggdekbnmnaaDoorQFnExactDbVerifiedx3
import Derived.Test.YtjchggdekbnmnaaDoorQFnExactDbVerifiedx4
import Derived.Test.YtjchggdekbnmnaaDoorQFnExactDbVerifiedx5
import Derived.Test.YtjchggdekbnmnaaDoorQFnExactDbVerifiedx6
import Derived.Test.YtjchggdekbnmnaaDoorQFnExactDbVerifiedx7
import Derived.Test.YtjchggdekbnmnaaDoorQFnExactDbVerifiedx8
import Derived.Test.YtjchggdekbnmnaaDoorQFnExactDbVerifiedx9
import Derived.Test.YtjchggdekbnmnaaDoorQFnExactDbVerifiedx10
namespace Go.Proofs.YtjchggdekbnmnaaDoor.QFnExactDbVerified
open Go.RowKit Go.Proofs.YtjchggdekbnmnaaDoorW.PrintWords Go.Proofs.YtjchggdekbnmnaaDoorW.PrintLast Go.Proofs.YtjchggdekbnmnaaDoorW.PrintMore
attribute [local go_sem] max2_int min2_int max_two min_two max_three min_three max_four min_four   -- for this text's walks alone
set_option linter.unusedVariables false
set_option linter.unusedSimpArgs false

end Go.Proofs.YtjchggdekbnmnaaDoor.QFnExactDbVerified
