-- what print.sh laid, shortened by a program of this session (wip/prune.py): declarations that this claim doesn't name are left out
import Derived.Test.YtfijkimkdccioaaDoorWTab
/-! ### 56. Four, five, six operations that may come up next, in any order -/
namespace Go.Proofs.YtfijkimkdccioaaDoorW.PrintLast
section
variable {P : Program} {ops : Array Oper} {Q : Exit → Act → World → Prop} {md : Region.Mode} {S : World → Prop} {ds : List Nat} {T : Bool × List (List Nat × List Nat)}
end
end Go.Proofs.YtfijkimkdccioaaDoorW.PrintLast
