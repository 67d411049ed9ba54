-- laid by this session's own runner (wip/print2.py): not a printed file
import Derived.Test.YtnofenbhioepbaaQFnNumsx0
import Derived.Test.YtnofenbhioepbaaQFnNumsx1
import Derived.Test.YtnofenbhioepbaaQFnNumsx2
import Derived.Test.YtnofenbhioepbaaQFnNumsx3
import Derived.Test.YtnofenbhioepbaaQFnNumsx4
import Derived.Test.YtnofenbhioepbaaQFnNumsx5
import Derived.Test.YtnofenbhioepbaaQFnNumsx6
namespace Go.Proofs.Ytnofenbhioepbaa.QFnNums
open Go.RowKit Go.Proofs.YtnofenbhioepbaaW.PrintWords Go.Proofs.YtnofenbhioepbaaW.PrintLast Go.Proofs.YtnofenbhioepbaaW.PrintMore
attribute [local go_sem] max2_int min2_int max_two min_two max_three min_three max_four min_four   -- for this text's walks alone
set_option linter.unusedVariables false
set_option linter.unusedSimpArgs false

end Go.Proofs.Ytnofenbhioepbaa.QFnNums
