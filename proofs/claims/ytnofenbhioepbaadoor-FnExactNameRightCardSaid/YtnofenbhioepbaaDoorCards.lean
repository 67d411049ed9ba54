/-
  DERIVED. GIVEN WITH THE SEED: THE CARDS: each row of YtnofenbhioepbaaDoorRows.lean that lists a variable, with what it lists TIED to the program's text (the seventh form; the later family's looks); each row that meets fmt, with fmt's text TOLD by the authors' own Lean function (tested against real Go, not proved from fmt's source: count such statements apart). THE CARD IS WHAT COUNTS. Prove the row's statement (the work); the ties are given (YtnofenbhioepbaaDoorTie.lean); close each card by the builder's one call (the guide's Derived/Test/ToyasCard.lean, 'card_holds'). Laid BY PROGRAM, IN A SANDBOX (cutbox-door.mjs). By AI agents, Wed Nov 11 2026. No macro, syntax, notation, axiom, sorry.
-/
import Derived.Test.YtnofenbhioepbaaDoorRows
import GoSem.ClaimSeven
namespace Go.Proofs.YtnofenbhioepbaaDoor
namespace Rows

/-- THE TIED CARD OF 'laws.FnExactNameRight'. -/
def fnExactNameRightCard : Claim7 := { stood := { row := fnExactNameRightRow, standIns := [], harness := (true, "9587146080b66f62e9bcf4bbdf5027986a5ea6da13d43b8fe476f1d0e152890a"), looks := false }, kinds := [], alts := [], laidByText := true, laidKinds := [.data, .pinned], laidTests := true, laidLooks := .later }
def FnExactNameRightCardSaid : Prop := Claim7.holds Tryd.pinned (.plain (OpenSpec.ofChange fnExactNameRightSpec)) fnExactNameRightCard

/-- THE SECOND FORM's CARD OF 'laws.FnExactNameRight'. -/
def fnExactNameRightUptoCard : Claim7 := { stood := { row := fnExactNameRightUptoRow, standIns := [], harness := (true, "9587146080b66f62e9bcf4bbdf5027986a5ea6da13d43b8fe476f1d0e152890a"), looks := false }, kinds := [], alts := [], laidByText := true, laidKinds := [.data, .pinned], laidTests := true, laidLooks := .later }
def FnExactNameRightUptoCardSaid : Prop := Claim7.holds Tryd.pinned (.plain (OpenSpec.upto fnExactNameRightSpec)) fnExactNameRightUptoCard
end Rows
end Go.Proofs.YtnofenbhioepbaaDoor
