-- what print.sh laid, shortened by a program of this session (wip/prune.py): declarations that this claim doesn't name are left out
import Derived.Test.YtjchggdekbnmnaaDoorWWords
import Derived.Laws.StructEq
/-! ### 53. '==' of structs as_ one Bool -/
namespace Go.Proofs.YtjchggdekbnmnaaDoorW.PrintWords
open Go.RowKit
section
variable {P : Program} {d : Nat} {xs ys : Array Value} {f : Field} {fs : List Field} {a b : Value} {r s : Bool} {w : World}
end
end Go.Proofs.YtjchggdekbnmnaaDoorW.PrintWords
