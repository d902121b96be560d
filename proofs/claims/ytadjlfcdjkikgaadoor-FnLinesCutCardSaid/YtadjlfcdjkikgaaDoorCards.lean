/-
  DERIVED. GIVEN WITH THE SEED: THE CARDS: each row of YtadjlfcdjkikgaaDoorRows.lean that lists a variable, with what it lists TIED to the program's text (the seventh form; the later family's looks); each row that meets fmt, with fmt's text TOLD by the authors' own Lean function (tested against real Go, not proved from fmt's source: count such statements apart). THE CARD IS WHAT COUNTS. Prove the row's statement (the work); the ties are given (YtadjlfcdjkikgaaDoorTie.lean); close each card by the builder's one call (the guide's Derived/Test/ToyasCard.lean, 'card_holds'). Laid BY PROGRAM, IN A SANDBOX (cutbox-door.mjs). By AI agents, Wed Nov 11 2026. No macro, syntax, notation, axiom, sorry.
-/
import Derived.Test.YtadjlfcdjkikgaaDoorRows
import GoSem.ClaimSeven
namespace Go.Proofs.YtadjlfcdjkikgaaDoor
namespace Rows

/-- THE TIED CARD OF 'laws.FnExactLinesIn'. -/
def fnExactLinesInCard : Claim7 := { stood := { row := fnExactLinesInRow, standIns := [], harness := (true, "2f8c6f8935b448bea86228e3dd0451abb09a8878435598b3de22ff3ec5ee29ce"), looks := false }, kinds := [], alts := [], laidByText := true, laidKinds := [.data, .pinned], laidTests := true, laidLooks := .later }
def FnExactLinesInCardSaid : Prop := Claim7.holds Tryd.pinned (.plain (OpenSpec.ofChange fnExactLinesInSpec)) fnExactLinesInCard

/-- THE TIED CARD OF 'laws.FnExactReplyText'. -/
def fnExactReplyTextCard : Claim7 := { stood := { row := fnExactReplyTextRow, standIns := [], harness := (true, "2f8c6f8935b448bea86228e3dd0451abb09a8878435598b3de22ff3ec5ee29ce"), looks := false }, kinds := [], alts := [], laidByText := true, laidKinds := [.data, .data, .data], laidTests := true, laidLooks := .later }
def FnExactReplyTextCardSaid : Prop := Claim7.holds Tryd.pinned (.plain (OpenSpec.ofChange fnExactReplyTextSpec)) fnExactReplyTextCard

/-- THE TIED CARD OF 'laws.FnExactLinesText'. -/
def fnExactLinesTextCard : Claim7 := { stood := { row := fnExactLinesTextRow, standIns := [], harness := (true, "2f8c6f8935b448bea86228e3dd0451abb09a8878435598b3de22ff3ec5ee29ce"), looks := false }, kinds := [], alts := [], laidByText := true, laidKinds := [.data, .data, .data], laidTests := true, laidLooks := .later }
def FnExactLinesTextCardSaid : Prop := Claim7.holds Tryd.pinned (.plain (OpenSpec.ofChange fnExactLinesTextSpec)) fnExactLinesTextCard

/-- THE TIED CARD OF 'laws.FnLinesCut'. -/
def fnLinesCutCard : Claim7 := { stood := { row := fnLinesCutRow, standIns := [], harness := (true, "2f8c6f8935b448bea86228e3dd0451abb09a8878435598b3de22ff3ec5ee29ce"), looks := false }, kinds := [], alts := [], laidByText := true, laidKinds := [.data, .pinned], laidTests := true, laidLooks := .later }
def FnLinesCutCardSaid : Prop := Claim7.holds Tryd.pinned (.plain (OpenSpec.ofChange fnLinesCutSpec)) fnLinesCutCard

/-- THE SECOND FORM's CARD OF 'laws.FnExactLinesIn'. -/
def fnExactLinesInUptoCard : Claim7 := { stood := { row := fnExactLinesInUptoRow, standIns := [], harness := (true, "2f8c6f8935b448bea86228e3dd0451abb09a8878435598b3de22ff3ec5ee29ce"), looks := false }, kinds := [], alts := [], laidByText := true, laidKinds := [.data, .pinned], laidTests := true, laidLooks := .later }
def FnExactLinesInUptoCardSaid : Prop := Claim7.holds Tryd.pinned (.plain (OpenSpec.upto fnExactLinesInSpec)) fnExactLinesInUptoCard

/-- THE SECOND FORM's CARD OF 'laws.FnExactReplyText'. -/
def fnExactReplyTextUptoCard : Claim7 := { stood := { row := fnExactReplyTextUptoRow, standIns := [], harness := (true, "2f8c6f8935b448bea86228e3dd0451abb09a8878435598b3de22ff3ec5ee29ce"), looks := false }, kinds := [], alts := [], laidByText := true, laidKinds := [.data, .data, .data], laidTests := true, laidLooks := .later }
def FnExactReplyTextUptoCardSaid : Prop := Claim7.holds Tryd.pinned (.plain (OpenSpec.upto fnExactReplyTextSpec)) fnExactReplyTextUptoCard

/-- THE SECOND FORM's CARD OF 'laws.FnExactLinesText'. -/
def fnExactLinesTextUptoCard : Claim7 := { stood := { row := fnExactLinesTextUptoRow, standIns := [], harness := (true, "2f8c6f8935b448bea86228e3dd0451abb09a8878435598b3de22ff3ec5ee29ce"), looks := false }, kinds := [], alts := [], laidByText := true, laidKinds := [.data, .data, .data], laidTests := true, laidLooks := .later }
def FnExactLinesTextUptoCardSaid : Prop := Claim7.holds Tryd.pinned (.plain (OpenSpec.upto fnExactLinesTextSpec)) fnExactLinesTextUptoCard

/-- THE SECOND FORM's CARD OF 'laws.FnLinesCut'. -/
def fnLinesCutUptoCard : Claim7 := { stood := { row := fnLinesCutUptoRow, standIns := [], harness := (true, "2f8c6f8935b448bea86228e3dd0451abb09a8878435598b3de22ff3ec5ee29ce"), looks := false }, kinds := [], alts := [], laidByText := true, laidKinds := [.data, .pinned], laidTests := true, laidLooks := .later }
def FnLinesCutUptoCardSaid : Prop := Claim7.holds Tryd.pinned (.plain (OpenSpec.upto fnLinesCutSpec)) fnLinesCutUptoCard
end Rows
end Go.Proofs.YtadjlfcdjkikgaaDoor
