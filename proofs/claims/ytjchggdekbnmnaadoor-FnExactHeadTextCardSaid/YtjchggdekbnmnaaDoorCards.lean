/-
  DERIVED. GIVEN WITH THE SEED: THE CARDS: each row of YtjchggdekbnmnaaDoorRows.lean that lists a variable, with what it lists TIED to the program's text (the seventh form; the later family's looks); each row that meets fmt, with fmt's text TOLD by the authors' own Lean function (tested against real Go, not proved from fmt's source: count such statements apart). THE CARD IS WHAT COUNTS. Prove the row's statement (the work); the ties are given (YtjchggdekbnmnaaDoorTie.lean); close each card by the builder's one call (the guide's Derived/Test/ToyasCard.lean, 'card_holds'). Laid BY PROGRAM, IN A SANDBOX (cutbox-door.mjs). By AI agents, Wed Nov 11 2026. No macro, syntax, notation, axiom, sorry.
-/
import Derived.Test.YtjchggdekbnmnaaDoorRows
import GoSem.ClaimSeven
namespace Go.Proofs.YtjchggdekbnmnaaDoor
namespace Rows

/-- THE TIED CARD OF 'laws.FnExactStreamRight'. -/
def fnExactStreamRightCard : Claim7 := { stood := { row := fnExactStreamRightRow, standIns := [], harness := (true, "db4640bec2bc74a289c8921bef30c6f35820fd550aaa82580a27088d4b7ac424"), looks := false }, kinds := [], alts := [], laidByText := true, laidKinds := [.data, .pinned], laidTests := true, laidLooks := .later }
def FnExactStreamRightCardSaid : Prop := Claim7.holds Tryd.pinned (.plain (OpenSpec.ofChange fnExactStreamRightSpec)) fnExactStreamRightCard

/-- THE TIED CARD OF 'laws.FnExactDialbackRight'. -/
def fnExactDialbackRightCard : Claim7 := { stood := { row := fnExactDialbackRightRow, standIns := [], harness := (true, "db4640bec2bc74a289c8921bef30c6f35820fd550aaa82580a27088d4b7ac424"), looks := false }, kinds := [], alts := [], laidByText := true, laidKinds := [.data, .pinned], laidTests := true, laidLooks := .later }
def FnExactDialbackRightCardSaid : Prop := Claim7.holds Tryd.pinned (.plain (OpenSpec.ofChange fnExactDialbackRightSpec)) fnExactDialbackRightCard

/-- THE TIED CARD OF 'laws.FnExactDbTrusts'. -/
def fnExactDbTrustsCard : Claim7 := { stood := { row := fnExactDbTrustsRow, standIns := [], harness := (true, "db4640bec2bc74a289c8921bef30c6f35820fd550aaa82580a27088d4b7ac424"), looks := false }, kinds := [], alts := [], laidByText := true, laidKinds := [.data, .pinned], laidTests := true, laidLooks := .later }
def FnExactDbTrustsCardSaid : Prop := Claim7.holds Tryd.pinned (.plain (OpenSpec.ofChange fnExactDbTrustsSpec)) fnExactDbTrustsCard

/-- THE TIED CARD OF 'laws.FnExactHeadText'. -/
def fnExactHeadTextCard : Claim7 := { stood := { row := fnExactHeadTextRow, standIns := [], harness := (true, "db4640bec2bc74a289c8921bef30c6f35820fd550aaa82580a27088d4b7ac424"), looks := false }, kinds := [], alts := [], laidByText := true, laidKinds := [.data, .data, .data, .data, .pinned], laidTests := true, laidLooks := .later }
def FnExactHeadTextCardSaid : Prop := Claim7.holds Tryd.pinned (.plain (OpenSpec.ofChange fnExactHeadTextSpec)) fnExactHeadTextCard

/-- THE TIED CARD OF 'laws.FnExactDbOpen'. -/
def fnExactDbOpenCard : Claim7 := { stood := { row := fnExactDbOpenRow, standIns := [], harness := (true, "db4640bec2bc74a289c8921bef30c6f35820fd550aaa82580a27088d4b7ac424"), looks := false }, kinds := [], alts := [], laidByText := true, laidKinds := [.data, .pinned], laidTests := true, laidLooks := .later }
def FnExactDbOpenCardSaid : Prop := Claim7.holds Tryd.pinned (.plain (OpenSpec.ofChange fnExactDbOpenSpec)) fnExactDbOpenCard

/-- THE TIED CARD OF 'laws.FnExactDbVerified'. -/
def fnExactDbVerifiedCard : Claim7 := { stood := { row := fnExactDbVerifiedRow, standIns := [], harness := (true, "db4640bec2bc74a289c8921bef30c6f35820fd550aaa82580a27088d4b7ac424"), looks := false }, kinds := [], alts := [], laidByText := true, laidKinds := [.data, .pinned], laidTests := true, laidLooks := .later }
def FnExactDbVerifiedCardSaid : Prop := Claim7.holds Tryd.pinned (.plain (OpenSpec.ofChange fnExactDbVerifiedSpec)) fnExactDbVerifiedCard

/-- THE TIED CARD OF 'laws.FnExactDbResult'. -/
def fnExactDbResultCard : Claim7 := { stood := { row := fnExactDbResultRow, standIns := [], harness := (true, "db4640bec2bc74a289c8921bef30c6f35820fd550aaa82580a27088d4b7ac424"), looks := false }, kinds := [], alts := [], laidByText := true, laidKinds := [.data, .pinned], laidTests := true, laidLooks := .later }
def FnExactDbResultCardSaid : Prop := Claim7.holds Tryd.pinned (.plain (OpenSpec.ofChange fnExactDbResultSpec)) fnExactDbResultCard

/-- THE TIED CARD OF 'laws.FnDialback'. -/
def fnDialbackCard : Claim7 := { stood := { row := fnDialbackRow, standIns := [], harness := (true, "db4640bec2bc74a289c8921bef30c6f35820fd550aaa82580a27088d4b7ac424"), looks := false }, kinds := [], alts := [], laidByText := true, laidKinds := [.data, .pinned], laidTests := true, laidLooks := .later }
def FnDialbackCardSaid : Prop := Claim7.holds Tryd.pinned (.plain (OpenSpec.ofChange fnDialbackSpec)) fnDialbackCard

/-- THE SECOND FORM's CARD OF 'laws.FnExactStreamRight'. -/
def fnExactStreamRightUptoCard : Claim7 := { stood := { row := fnExactStreamRightUptoRow, standIns := [], harness := (true, "db4640bec2bc74a289c8921bef30c6f35820fd550aaa82580a27088d4b7ac424"), looks := false }, kinds := [], alts := [], laidByText := true, laidKinds := [.data, .pinned], laidTests := true, laidLooks := .later }
def FnExactStreamRightUptoCardSaid : Prop := Claim7.holds Tryd.pinned (.plain (OpenSpec.upto fnExactStreamRightSpec)) fnExactStreamRightUptoCard

/-- THE SECOND FORM's CARD OF 'laws.FnExactDialbackRight'. -/
def fnExactDialbackRightUptoCard : Claim7 := { stood := { row := fnExactDialbackRightUptoRow, standIns := [], harness := (true, "db4640bec2bc74a289c8921bef30c6f35820fd550aaa82580a27088d4b7ac424"), looks := false }, kinds := [], alts := [], laidByText := true, laidKinds := [.data, .pinned], laidTests := true, laidLooks := .later }
def FnExactDialbackRightUptoCardSaid : Prop := Claim7.holds Tryd.pinned (.plain (OpenSpec.upto fnExactDialbackRightSpec)) fnExactDialbackRightUptoCard

/-- THE SECOND FORM's CARD OF 'laws.FnExactDbTrusts'. -/
def fnExactDbTrustsUptoCard : Claim7 := { stood := { row := fnExactDbTrustsUptoRow, standIns := [], harness := (true, "db4640bec2bc74a289c8921bef30c6f35820fd550aaa82580a27088d4b7ac424"), looks := false }, kinds := [], alts := [], laidByText := true, laidKinds := [.data, .pinned], laidTests := true, laidLooks := .later }
def FnExactDbTrustsUptoCardSaid : Prop := Claim7.holds Tryd.pinned (.plain (OpenSpec.upto fnExactDbTrustsSpec)) fnExactDbTrustsUptoCard

/-- THE SECOND FORM's CARD OF 'laws.FnExactHeadText'. -/
def fnExactHeadTextUptoCard : Claim7 := { stood := { row := fnExactHeadTextUptoRow, standIns := [], harness := (true, "db4640bec2bc74a289c8921bef30c6f35820fd550aaa82580a27088d4b7ac424"), looks := false }, kinds := [], alts := [], laidByText := true, laidKinds := [.data, .data, .data, .data, .pinned], laidTests := true, laidLooks := .later }
def FnExactHeadTextUptoCardSaid : Prop := Claim7.holds Tryd.pinned (.plain (OpenSpec.upto fnExactHeadTextSpec)) fnExactHeadTextUptoCard

/-- THE SECOND FORM's CARD OF 'laws.FnExactDbOpen'. -/
def fnExactDbOpenUptoCard : Claim7 := { stood := { row := fnExactDbOpenUptoRow, standIns := [], harness := (true, "db4640bec2bc74a289c8921bef30c6f35820fd550aaa82580a27088d4b7ac424"), looks := false }, kinds := [], alts := [], laidByText := true, laidKinds := [.data, .pinned], laidTests := true, laidLooks := .later }
def FnExactDbOpenUptoCardSaid : Prop := Claim7.holds Tryd.pinned (.plain (OpenSpec.upto fnExactDbOpenSpec)) fnExactDbOpenUptoCard

/-- THE SECOND FORM's CARD OF 'laws.FnExactDbVerified'. -/
def fnExactDbVerifiedUptoCard : Claim7 := { stood := { row := fnExactDbVerifiedUptoRow, standIns := [], harness := (true, "db4640bec2bc74a289c8921bef30c6f35820fd550aaa82580a27088d4b7ac424"), looks := false }, kinds := [], alts := [], laidByText := true, laidKinds := [.data, .pinned], laidTests := true, laidLooks := .later }
def FnExactDbVerifiedUptoCardSaid : Prop := Claim7.holds Tryd.pinned (.plain (OpenSpec.upto fnExactDbVerifiedSpec)) fnExactDbVerifiedUptoCard

/-- THE SECOND FORM's CARD OF 'laws.FnExactDbResult'. -/
def fnExactDbResultUptoCard : Claim7 := { stood := { row := fnExactDbResultUptoRow, standIns := [], harness := (true, "db4640bec2bc74a289c8921bef30c6f35820fd550aaa82580a27088d4b7ac424"), looks := false }, kinds := [], alts := [], laidByText := true, laidKinds := [.data, .pinned], laidTests := true, laidLooks := .later }
def FnExactDbResultUptoCardSaid : Prop := Claim7.holds Tryd.pinned (.plain (OpenSpec.upto fnExactDbResultSpec)) fnExactDbResultUptoCard

/-- THE SECOND FORM's CARD OF 'laws.FnDialback'. -/
def fnDialbackUptoCard : Claim7 := { stood := { row := fnDialbackUptoRow, standIns := [], harness := (true, "db4640bec2bc74a289c8921bef30c6f35820fd550aaa82580a27088d4b7ac424"), looks := false }, kinds := [], alts := [], laidByText := true, laidKinds := [.data, .pinned], laidTests := true, laidLooks := .later }
def FnDialbackUptoCardSaid : Prop := Claim7.holds Tryd.pinned (.plain (OpenSpec.upto fnDialbackSpec)) fnDialbackUptoCard
end Rows
end Go.Proofs.YtjchggdekbnmnaaDoor
