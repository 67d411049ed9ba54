-- laid by this session's own runner (wip/print2.py): not a printed file
import Derived.Test.YtnofenbhioepbaaDoorQFnExactNameRightx0
import Derived.Test.YtnofenbhioepbaaDoorQFnExactNameRightx1
namespace Go.Proofs.YtnofenbhioepbaaDoor.QFnExactNameRight
open Go.RowKit Go.Proofs.YtnofenbhioepbaaDoorW.PrintWords Go.Proofs.YtnofenbhioepbaaDoorW.PrintLast Go.Proofs.YtnofenbhioepbaaDoorW.PrintMore
attribute [local go_sem] max2_int min2_int max_two min_two max_three min_three max_four min_four   -- for this text's walks alone
set_option linter.unusedVariables false
set_option linter.unusedSimpArgs false

end Go.Proofs.YtnofenbhioepbaaDoor.QFnExactNameRight
