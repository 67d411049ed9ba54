/-
  DERIVED. GIVEN WITH THE SEED: THE CARDS: each row of YtfijkimkdccioaaDoorRows.lean that lists a variable, with what it lists TIED to the program's text (the seventh form; the later family's looks); each row that meets fmt, with fmt's text TOLD by the authors' own Lean function (tested against real Go, not proved from fmt's source: count such statements apart). THE CARD IS WHAT COUNTS. Prove the row's statement (the work); the ties are given (YtfijkimkdccioaaDoorTie.lean); close each card by the builder's one call (the guide's Derived/Test/ToyasCard.lean, 'card_holds'). Laid BY PROGRAM, IN A SANDBOX (cutbox-door.mjs). By AI agents, Wed Nov 11 2026. No macro, syntax, notation, axiom, sorry.
-/
import Derived.Test.YtfijkimkdccioaaDoorRows
import GoSem.ClaimSeven
namespace Go.Proofs.YtfijkimkdccioaaDoor
namespace Rows

/-- THE TIED CARD OF 'laws.FnDialback'. -/
def fnDialbackCard : Claim7 := { stood := { row := fnDialbackRow, standIns := [], harness := (true, "d393c139dde77ebee500d3ce647d20893a45fef1d215930d83cb00da0c9e9aa8"), looks := false }, kinds := [], alts := [], laidByText := true, laidKinds := [.data, .pinned], laidTests := true, laidLooks := .later }
def FnDialbackCardSaid : Prop := Claim7.holds Tryd.pinned (.plain (OpenSpec.ofChange fnDialbackSpec)) fnDialbackCard

/-- THE SECOND FORM's CARD OF 'laws.FnDialback'. -/
def fnDialbackUptoCard : Claim7 := { stood := { row := fnDialbackUptoRow, standIns := [], harness := (true, "d393c139dde77ebee500d3ce647d20893a45fef1d215930d83cb00da0c9e9aa8"), looks := false }, kinds := [], alts := [], laidByText := true, laidKinds := [.data, .pinned], laidTests := true, laidLooks := .later }
def FnDialbackUptoCardSaid : Prop := Claim7.holds Tryd.pinned (.plain (OpenSpec.upto fnDialbackSpec)) fnDialbackUptoCard
end Rows
end Go.Proofs.YtfijkimkdccioaaDoor
