-- laid by this session's own runner (wip/print2.py): not a printed file
import Derived.Test.YtnofenbhioepbaaDoorProg
import Derived.Below
import Derived.Deep.Draws
import Derived.Deep.AppendLies
import Derived.Maps.AppendAt
import Derived.OwnWalk
import Derived.Laws.BytesArg
import Derived.Laws.MakeOwn
import Derived.Laws.OwnMore
import Derived.Deep.OwnRows
import Derived.Tactics
import Derived.Lib.ConvBytes
import Derived.Laws.Slices
import Derived.WalkKit
import Derived.KernelRfl
import Derived.RowKit3
import Derived.Deep.LoopGhost
import Derived.Deep.QuietTactic
import Derived.BigQuiet
import Derived.WideLaws
import Derived.Deep.DeepCutAuto
import Derived.Deep.CutBlock
import Derived.Deep.RegionHeld3
import Derived.Laws.Rows
import Derived.Lib.AppendStr
import Derived.ArgAppend
import Derived.Laws.IdiomCopy
import Derived.OrdersHeld
import Derived.Laws.BitsLemmas
import Derived.RowKit
import Derived.RegionTactic
import Derived.ChangeAlike
import Derived.Test.YtnofenbhioepbaaDoorShelfP
import Derived.Test.YtnofenbhioepbaaDoorWWords
import Derived.Test.YtnofenbhioepbaaDoorWLast
import Derived.Test.YtnofenbhioepbaaDoorWTab
import Derived.Test.YtnofenbhioepbaaDoorWFour
import Derived.Test.YtnofenbhioepbaaDoorWQPut
import Derived.Test.YtnofenbhioepbaaDoorWApart
import Derived.Test.YtnofenbhioepbaaDoorWArr
import Derived.Test.YtnofenbhioepbaaDoorWZeros
import Derived.Test.YtnofenbhioepbaaDoorWFoot
import Derived.Test.YtnofenbhioepbaaDoorWKept
import Derived.Test.YtnofenbhioepbaaDoorWShare
import Derived.Test.YtnofenbhioepbaaDoorWN
import Derived.Test.YtnofenbhioepbaaDoorWFootNe
import Derived.Test.YtnofenbhioepbaaDoorWAt
import Derived.Test.YtnofenbhioepbaaDoorWEqStruct
import Derived.Test.YtnofenbhioepbaaDoorWRepsOne
import Derived.Test.YtnofenbhioepbaaDoorWInv
import Derived.Test.YtnofenbhioepbaaDoorWInvWords
import Derived.Test.YtnofenbhioepbaaDoorWGuard
import Derived.Test.YtnofenbhioepbaaDoorWNEv
import Derived.Test.YtnofenbhioepbaaDoorWMore
namespace Go.Proofs.YtnofenbhioepbaaDoor.QFnExactNameRight
open Go.RowKit Go.Proofs.YtnofenbhioepbaaDoorW.PrintWords Go.Proofs.YtnofenbhioepbaaDoorW.PrintLast Go.Proofs.YtnofenbhioepbaaDoorW.PrintMore
attribute [local go_sem] max2_int min2_int max_two min_two max_three min_three max_four min_four   -- for this text's walks alone
set_option linter.unusedVariables false
set_option linter.unusedSimpArgs false



def errW : Option Int → Value
  | none => .nilIface
  | some c => .iface 0 (.int .i64 c)
theorem errW_none : errW none = .nilIface := rfl
theorem errW_some (c : Int) : errW (some c) = .iface 0 (.int .i64 c) := rfl

-- the values' own types

end Go.Proofs.YtnofenbhioepbaaDoor.QFnExactNameRight
