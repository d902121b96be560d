/-
  DERIVED. GIVEN WITH THE SEED: THE CARDS: each row of YtidfhkdonhjgaaaGreatDoorRows.lean that lists a variable, with what it lists TIED to the program's text (the seventh form; the later family's looks); each row that meets fmt, with fmt's text TOLD by the authors' own Lean function (tested against real Go, not proved from fmt's source: count such statements apart). THE CARD IS WHAT COUNTS. Prove the row's statement (the work); the ties are given (YtidfhkdonhjgaaaGreatDoorTie.lean); close each card by the builder's one call (the guide's Derived/Test/ToyasCard.lean, 'card_holds'). Laid BY PROGRAM, IN A SANDBOX (cutbox-door.mjs). By AI agents, Wed Nov 11 2026. No macro, syntax, notation, axiom, sorry.
-/
import Derived.Test.YtidfhkdonhjgaaaGreatDoorRows
import GoSem.ClaimSeven
namespace Go.Proofs.YtidfhkdonhjgaaaGreatDoor
namespace Rows

/-- THE TIED CARD OF 'laws.FnExactReadReply'. -/
def fnExactReadReplyCard : Claim7 := { stood := { row := fnExactReadReplyRow, standIns := [], harness := (true, "4621a37dd68118342fdfce8a9dfed1da9aaa2691ca1339e1ab92f5a47c92b87e"), looks := true }, kinds := [], alts := [], laidByText := true, laidKinds := [.data, .data, .data, .sentinel, .sentinel, .listed, .data, .sentinel], laidTests := true, laidLooks := .later }
def FnExactReadReplyCardSaid : Prop := Claim7.holds Tryz.pinned (.plain (OpenSpec.ofChange fnExactReadReplySpec)) fnExactReadReplyCard

/-- THE TIED CARD OF 'laws.FnReply'. -/
def fnReplyCard : Claim7 := { stood := { row := fnReplyRow, standIns := [], harness := (true, "4621a37dd68118342fdfce8a9dfed1da9aaa2691ca1339e1ab92f5a47c92b87e"), looks := true }, kinds := [], alts := [], laidByText := true, laidKinds := [.data, .data, .data, .sentinel, .sentinel, .listed, .data, .sentinel], laidTests := true, laidLooks := .later }
def FnReplyCardSaid : Prop := Claim7.holds Tryz.pinned (.plain (OpenSpec.ofChange fnReplySpec)) fnReplyCard

/-- THE TIED CARD OF 'laws.FnExactRepliesIn'. -/
def fnExactRepliesInCard : Claim7 := { stood := { row := fnExactRepliesInRow, standIns := [], harness := (true, "4621a37dd68118342fdfce8a9dfed1da9aaa2691ca1339e1ab92f5a47c92b87e"), looks := true }, kinds := [], alts := [], laidByText := true, laidKinds := [.data, .data, .data, .data, .sentinel, .sentinel, .listed, .data, .sentinel, .pinned], laidTests := true, laidLooks := .later }
def FnExactRepliesInCardSaid : Prop := Claim7.holds Tryz.pinned (.plain (OpenSpec.ofChange fnExactRepliesInSpec)) fnExactRepliesInCard

/-- THE TIED CARD OF 'laws.FnExactFoldText'. -/
def fnExactFoldTextCard : Claim7 := { stood := { row := fnExactFoldTextRow, standIns := [], harness := (true, "4621a37dd68118342fdfce8a9dfed1da9aaa2691ca1339e1ab92f5a47c92b87e"), looks := true }, kinds := [], alts := [], laidByText := true, laidKinds := [.data, .data, .data, .data, .sentinel, .sentinel, .listed, .data, .sentinel, .pinned], laidTests := true, laidLooks := .later }
def FnExactFoldTextCardSaid : Prop := Claim7.holds Tryz.pinned (.plain (OpenSpec.ofChange fnExactFoldTextSpec)) fnExactFoldTextCard

/-- THE SECOND FORM's CARD OF 'laws.FnExactReadReply'. -/
def fnExactReadReplyUptoCard : Claim7 := { stood := { row := fnExactReadReplyUptoRow, standIns := [], harness := (true, "4621a37dd68118342fdfce8a9dfed1da9aaa2691ca1339e1ab92f5a47c92b87e"), looks := true }, kinds := [], alts := [], laidByText := true, laidKinds := [.data, .data, .data, .sentinel, .sentinel, .listed, .data, .sentinel], laidTests := true, laidLooks := .later }
def FnExactReadReplyUptoCardSaid : Prop := Claim7.holds Tryz.pinned (.plain (OpenSpec.upto fnExactReadReplySpec)) fnExactReadReplyUptoCard

/-- THE SECOND FORM's CARD OF 'laws.FnReply'. -/
def fnReplyUptoCard : Claim7 := { stood := { row := fnReplyUptoRow, standIns := [], harness := (true, "4621a37dd68118342fdfce8a9dfed1da9aaa2691ca1339e1ab92f5a47c92b87e"), looks := true }, kinds := [], alts := [], laidByText := true, laidKinds := [.data, .data, .data, .sentinel, .sentinel, .listed, .data, .sentinel], laidTests := true, laidLooks := .later }
def FnReplyUptoCardSaid : Prop := Claim7.holds Tryz.pinned (.plain (OpenSpec.upto fnReplySpec)) fnReplyUptoCard

/-- THE SECOND FORM's CARD OF 'laws.FnExactRepliesIn'. -/
def fnExactRepliesInUptoCard : Claim7 := { stood := { row := fnExactRepliesInUptoRow, standIns := [], harness := (true, "4621a37dd68118342fdfce8a9dfed1da9aaa2691ca1339e1ab92f5a47c92b87e"), looks := true }, kinds := [], alts := [], laidByText := true, laidKinds := [.data, .data, .data, .data, .sentinel, .sentinel, .listed, .data, .sentinel, .pinned], laidTests := true, laidLooks := .later }
def FnExactRepliesInUptoCardSaid : Prop := Claim7.holds Tryz.pinned (.plain (OpenSpec.upto fnExactRepliesInSpec)) fnExactRepliesInUptoCard

/-- THE SECOND FORM's CARD OF 'laws.FnExactFoldText'. -/
def fnExactFoldTextUptoCard : Claim7 := { stood := { row := fnExactFoldTextUptoRow, standIns := [], harness := (true, "4621a37dd68118342fdfce8a9dfed1da9aaa2691ca1339e1ab92f5a47c92b87e"), looks := true }, kinds := [], alts := [], laidByText := true, laidKinds := [.data, .data, .data, .data, .sentinel, .sentinel, .listed, .data, .sentinel, .pinned], laidTests := true, laidLooks := .later }
def FnExactFoldTextUptoCardSaid : Prop := Claim7.holds Tryz.pinned (.plain (OpenSpec.upto fnExactFoldTextSpec)) fnExactFoldTextUptoCard
end Rows
end Go.Proofs.YtidfhkdonhjgaaaGreatDoor
