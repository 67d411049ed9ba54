-- laid by this session's own runner (wip/print2.py): not a printed file
import Derived.Test.YtjchggdekbnmnaaDoorProg
import Derived.Below
import Derived.Deep.Draws
import Derived.Deep.AppendLies
import Derived.Maps.AppendAt
import Derived.OwnWalk
import Derived.Laws.BytesArg
import Derived.Laws.MakeOwn
import Derived.Laws.OwnMore
import Derived.Deep.OwnRows
import Derived.Tactics
import Derived.Lib.ConvBytes
import Derived.Laws.Slices
import Derived.WalkKit
import Derived.KernelRfl
import Derived.RowKit3
import Derived.Deep.LoopGhost
import Derived.Deep.QuietTactic
import Derived.BigQuiet
import Derived.WideLaws
import Derived.Deep.DeepCutAuto
import Derived.Deep.CutBlock
import Derived.Deep.RegionHeld3
import Derived.Laws.Rows
import Derived.Lib.AppendStr
import Derived.ArgAppend
import Derived.Laws.IdiomCopy
import Derived.OrdersHeld
import Derived.Laws.BitsLemmas
import Derived.RowKit
import Derived.RegionTactic
import Derived.ChangeAlike
import Derived.Test.YtjchggdekbnmnaaDoorShelfP
import Derived.Test.YtjchggdekbnmnaaDoorMaxTab
import Derived.Test.YtjchggdekbnmnaaDoorWWords
import Derived.Test.YtjchggdekbnmnaaDoorWLast
import Derived.Test.YtjchggdekbnmnaaDoorWTab
import Derived.Test.YtjchggdekbnmnaaDoorWFour
import Derived.Test.YtjchggdekbnmnaaDoorWQPut
import Derived.Test.YtjchggdekbnmnaaDoorWApart
import Derived.Test.YtjchggdekbnmnaaDoorWArr
import Derived.Test.YtjchggdekbnmnaaDoorWZeros
import Derived.Test.YtjchggdekbnmnaaDoorWFoot
import Derived.Test.YtjchggdekbnmnaaDoorWKept
import Derived.Test.YtjchggdekbnmnaaDoorWShare
import Derived.Test.YtjchggdekbnmnaaDoorWN
import Derived.Test.YtjchggdekbnmnaaDoorWFootNe
import Derived.Test.YtjchggdekbnmnaaDoorWAt
import Derived.Test.YtjchggdekbnmnaaDoorWEqStruct
import Derived.Test.YtjchggdekbnmnaaDoorWRepsOne
import Derived.Test.YtjchggdekbnmnaaDoorWInv
import Derived.Test.YtjchggdekbnmnaaDoorWInvWords
import Derived.Test.YtjchggdekbnmnaaDoorWGuard
import Derived.Test.YtjchggdekbnmnaaDoorWNEv
import Derived.Test.YtjchggdekbnmnaaDoorWMore
namespace Go.Proofs.YtjchggdekbnmnaaDoor.QFnExactHeadText
open Go.RowKit Go.Proofs.YtjchggdekbnmnaaDoorW.PrintWords Go.Proofs.YtjchggdekbnmnaaDoorW.PrintLast Go.Proofs.YtjchggdekbnmnaaDoorW.PrintMore
attribute [local go_sem] max2_int min2_int max_two min_two max_three min_three max_four min_four   -- for this text's walks alone
set_option linter.unusedVariables false
set_option linter.unusedSimpArgs false



def errW : Option Int → Value
  | none => .nilIface
  | some c => .iface 0 (.int .i64 c)
theorem errW_none : errW none = .nilIface := rfl
theorem errW_some (c : Int) : errW (some c) = .iface 0 (.int .i64 c) := rfl

theorem info5 : (Tryd.prog.info? 5).map (fun i => (i.zero, i.size, i.bytes)) = some (some (.int .u8 0), 1, 1) := by kernel_rfl
-- the values' own types

end Go.Proofs.YtjchggdekbnmnaaDoor.QFnExactHeadText
