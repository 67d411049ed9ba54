-- what print.sh laid, shortened by a program of this session (wip/prune.py): declarations that this claim doesn't name are left out
import Derived.Test.YtjchggdekbnmnaaDoorWInv
import Derived.Test.YtjchggdekbnmnaaDoorWFootNe
namespace Go.Proofs.YtjchggdekbnmnaaDoorW.PrintWords
open Go.RowKit
end Go.Proofs.YtjchggdekbnmnaaDoorW.PrintWords
namespace Go.Proofs.YtjchggdekbnmnaaDoorW.PrintLast
section
variable {ops : Array Oper} {a : Act} {o og : Oper} {g : Nat} {t : Tmp} {u : Bool}
end
end Go.Proofs.YtjchggdekbnmnaaDoorW.PrintLast
