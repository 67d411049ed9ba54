-- what print.sh laid, shortened by a program of this session (wip/prune.py): declarations that this claim doesn't name are left out
import Derived.Test.YtfijkimkdccioaaDoorWN
/-! ### 52. A row that stays read whatever happens to a block (a set of blocks) doesn't lie there -/
namespace Go.Proofs.YtfijkimkdccioaaDoorW.PrintWords
open Go.RowKit
namespace Kd
section
variable {α : Type} {d : Kd α} {W : World} {g n : Nat} {S ok : Nat → Prop} {A : Option Addr} {ad : Addr} {xs : List α}
end
end Kd
end Go.Proofs.YtfijkimkdccioaaDoorW.PrintWords
