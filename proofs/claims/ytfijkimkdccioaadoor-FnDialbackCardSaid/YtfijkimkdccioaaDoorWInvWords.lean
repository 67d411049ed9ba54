-- what print.sh laid, shortened by a program of this session (wip/prune.py): declarations that this claim doesn't name are left out
import Derived.Test.YtfijkimkdccioaaDoorWInv
import Derived.Test.YtfijkimkdccioaaDoorWFootNe
namespace Go.Proofs.YtfijkimkdccioaaDoorW.PrintWords
open Go.RowKit
end Go.Proofs.YtfijkimkdccioaaDoorW.PrintWords
namespace Go.Proofs.YtfijkimkdccioaaDoorW.PrintLast
section
variable {ops : Array Oper} {a : Act} {o og : Oper} {g : Nat} {t : Tmp} {u : Bool}
end
end Go.Proofs.YtfijkimkdccioaaDoorW.PrintLast
