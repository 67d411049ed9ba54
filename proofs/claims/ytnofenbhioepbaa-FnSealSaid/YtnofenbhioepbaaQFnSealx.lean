-- laid by this session's own runner (wip/print2.py): not a printed file
import Derived.Test.YtnofenbhioepbaaQFnSealx0
import Derived.Test.YtnofenbhioepbaaQFnSealx1
import Derived.Test.YtnofenbhioepbaaQFnSealx2
import Derived.Test.YtnofenbhioepbaaQFnSealx3
namespace Go.Proofs.Ytnofenbhioepbaa.QFnSeal
open Go.RowKit Go.Proofs.YtnofenbhioepbaaW.PrintWords Go.Proofs.YtnofenbhioepbaaW.PrintLast Go.Proofs.YtnofenbhioepbaaW.PrintMore
attribute [local go_sem] max2_int min2_int max_two min_two max_three min_three max_four min_four   -- for this text's walks alone
set_option linter.unusedVariables false
set_option linter.unusedSimpArgs false

end Go.Proofs.Ytnofenbhioepbaa.QFnSeal
