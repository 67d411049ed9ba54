-- laid by this session's own runner (wip/print2.py): not a printed file
import Derived.Test.YtnhmdanimcebkaaProg
import Derived.Below
import Derived.Deep.Draws
import Derived.Deep.AppendLies
import Derived.Maps.AppendAt
import Derived.OwnWalk
import Derived.Laws.BytesArg
import Derived.Laws.MakeOwn
import Derived.Laws.OwnMore
import Derived.Deep.OwnRows
import Derived.Tactics
import Derived.Lib.ConvBytes
import Derived.Laws.Slices
import Derived.WalkKit
import Derived.KernelRfl
import Derived.RowKit3
import Derived.Deep.LoopGhost
import Derived.Deep.QuietTactic
import Derived.BigQuiet
import Derived.WideLaws
import Derived.Deep.DeepCutAuto
import Derived.Deep.CutBlock
import Derived.Deep.RegionHeld3
import Derived.Laws.Rows
import Derived.Lib.AppendStr
import Derived.ArgAppend
import Derived.Laws.IdiomCopy
import Derived.OrdersHeld
import Derived.Laws.BitsLemmas
import Derived.RowKit
import Derived.Test.YtnhmdanimcebkaaWWords
import Derived.Test.YtnhmdanimcebkaaWLast
import Derived.Test.YtnhmdanimcebkaaWTab
import Derived.Test.YtnhmdanimcebkaaWFour
import Derived.Test.YtnhmdanimcebkaaWQPut
import Derived.Test.YtnhmdanimcebkaaWApart
import Derived.Test.YtnhmdanimcebkaaWArr
import Derived.Test.YtnhmdanimcebkaaWZeros
import Derived.Test.YtnhmdanimcebkaaWFoot
import Derived.Test.YtnhmdanimcebkaaWKept
import Derived.Test.YtnhmdanimcebkaaWShare
import Derived.Test.YtnhmdanimcebkaaWN
import Derived.Test.YtnhmdanimcebkaaWFootNe
import Derived.Test.YtnhmdanimcebkaaWAt
import Derived.Test.YtnhmdanimcebkaaWEqStruct
import Derived.Test.YtnhmdanimcebkaaWRepsOne
import Derived.Test.YtnhmdanimcebkaaWInv
import Derived.Test.YtnhmdanimcebkaaWInvWords
import Derived.Test.YtnhmdanimcebkaaWGuard
import Derived.Test.YtnhmdanimcebkaaWNEv
import Derived.Test.YtnhmdanimcebkaaWMore
namespace Go.Proofs.Ytnhmdanimcebkaa.QFnExactHalfName
open Go.RowKit Go.Proofs.YtnhmdanimcebkaaW.PrintWords Go.Proofs.YtnhmdanimcebkaaW.PrintLast Go.Proofs.YtnhmdanimcebkaaW.PrintMore
attribute [local go_sem] max2_int min2_int max_two min_two max_three min_three max_four min_four   -- for this text's walks alone
set_option linter.unusedVariables false
set_option linter.unusedSimpArgs false



def errW : Option Int → Value
  | none => .nilIface
  | some c => .iface 0 (.int .i64 c)
theorem errW_none : errW none = .nilIface := rfl
theorem errW_some (c : Int) : errW (some c) = .iface 0 (.int .i64 c) := rfl

-- the values' own types

end Go.Proofs.Ytnhmdanimcebkaa.QFnExactHalfName
