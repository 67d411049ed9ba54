-- laid by this session's own runner (wip/print2.py): not a printed file
import Derived.Test.YtjchggdekbnmnaaDoorQFnExactDbTrustsx0
import Derived.Test.YtjchggdekbnmnaaDoorQFnExactDbTrustsx1
import Derived.Test.YtjchggdekbnmnaaDoorQFnExactDbTrustsx2
import Derived.Test.YtjchggdekbnmnaaDoorQFnExactDbTrustsx3
import Derived.Test.YtjchggdekbnmnaaDoorQFnExactDbTrustsx4
import Derived.Test.YtjchggdekbnmnaaDoorQFnExactDbTrustsx5
import Derived.Test.YtjchggdekbnmnaaDoorQFnExactDbTrustsx6
import Derived.Test.YtjchggdekbnmnaaDoorQFnExactDbTrustsx7
namespace Go.Proofs.YtjchggdekbnmnaaDoor.QFnExactDbTrusts
open Go.RowKit Go.Proofs.YtjchggdekbnmnaaDoorW.PrintWords Go.Proofs.YtjchggdekbnmnaaDoorW.PrintLast Go.Proofs.YtjchggdekbnmnaaDoorW.PrintMore
attribute [local go_sem] max2_int min2_int max_two min_two max_three min_three max_four min_four   -- for this text's walks alone
set_option linter.unusedVariables false
set_option linter.unusedSimpArgs false

end Go.Proofs.YtjchggdekbnmnaaDoor.QFnExactDbTrusts
