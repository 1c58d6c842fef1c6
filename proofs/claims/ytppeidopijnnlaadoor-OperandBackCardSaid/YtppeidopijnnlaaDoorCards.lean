/-
  DERIVED. GIVEN WITH THE SEED: THE CARDS: each row of YtppeidopijnnlaaDoorRows.lean that lists a variable, with what it lists TIED to the program's text (the seventh form; the later family's looks); each row that meets fmt, with fmt's text TOLD by the authors' own Lean function (tested against real Go, not proved from fmt's source: count such statements apart). THE CARD IS WHAT COUNTS. Prove the row's statement (the work); the ties are given (YtppeidopijnnlaaDoorTie.lean); close each card by the builder's one call (the guide's Derived/Test/ToyasCard.lean, 'card_holds'). Laid BY PROGRAM, IN A SANDBOX (cutbox-door.mjs). By AI agents, Wed Nov 11 2026. No macro, syntax, notation, axiom, sorry.
-/
import Derived.Test.YtppeidopijnnlaaDoorRows
import GoSem.ClaimSeven
namespace Go.Proofs.YtppeidopijnnlaaDoor
namespace Rows

/-- THE TIED CARD OF 'sundiallaw08.OperandBack'. -/
def operandBackCard : Claim7 := { stood := { row := operandBackRow, standIns := [], harness := (true, "ce890f8c4758731232faa48a5b81967a9524d5a4cebb2f500abbf70cb7bb7bd2"), looks := false }, kinds := [], alts := [], laidByText := true, laidKinds := [.data, .data], laidTests := true, laidLooks := .later }
def OperandBackCardSaid : Prop := Claim7.holds Tryd.pinned (.plain (OpenSpec.ofChange operandBackSpec)) operandBackCard

/-- THE TIED CARD OF 'sundiallaw08.OperandRight'. -/
def operandRightCard : Claim7 := { stood := { row := operandRightRow, standIns := [], harness := (true, "ce890f8c4758731232faa48a5b81967a9524d5a4cebb2f500abbf70cb7bb7bd2"), looks := false }, kinds := [], alts := [], laidByText := true, laidKinds := [.data, .data], laidTests := true, laidLooks := .later }
def OperandRightCardSaid : Prop := Claim7.holds Tryd.pinned (.plain (OpenSpec.ofChange operandRightSpec)) operandRightCard

/-- THE TIED CARD OF 'sundiallaw08.OperandLong'. -/
def operandLongCard : Claim7 := { stood := { row := operandLongRow, standIns := [], harness := (true, "ce890f8c4758731232faa48a5b81967a9524d5a4cebb2f500abbf70cb7bb7bd2"), looks := false }, kinds := [], alts := [], laidByText := true, laidKinds := [.data, .data], laidTests := true, laidLooks := .later }
def OperandLongCardSaid : Prop := Claim7.holds Tryd.pinned (.plain (OpenSpec.ofChange operandLongSpec)) operandLongCard

/-- THE TIED CARD OF 'sundiallaw08.OperandTells'. -/
def operandTellsCard : Claim7 := { stood := { row := operandTellsRow, standIns := [], harness := (true, "ce890f8c4758731232faa48a5b81967a9524d5a4cebb2f500abbf70cb7bb7bd2"), looks := false }, kinds := [], alts := [], laidByText := true, laidKinds := [.data, .data], laidTests := true, laidLooks := .later }
def OperandTellsCardSaid : Prop := Claim7.holds Tryd.pinned (.plain (OpenSpec.ofChange operandTellsSpec)) operandTellsCard

/-- THE TIED CARD OF 'sundiallaw08.OperandParts'. -/
def operandPartsCard : Claim7 := { stood := { row := operandPartsRow, standIns := [], harness := (true, "ce890f8c4758731232faa48a5b81967a9524d5a4cebb2f500abbf70cb7bb7bd2"), looks := false }, kinds := [], alts := [], laidByText := true, laidKinds := [.data, .data], laidTests := true, laidLooks := .later }
def OperandPartsCardSaid : Prop := Claim7.holds Tryd.pinned (.plain (OpenSpec.ofChange operandPartsSpec)) operandPartsCard

/-- THE SECOND FORM's CARD OF 'sundiallaw08.OperandBack'. -/
def operandBackUptoCard : Claim7 := { stood := { row := operandBackUptoRow, standIns := [], harness := (true, "ce890f8c4758731232faa48a5b81967a9524d5a4cebb2f500abbf70cb7bb7bd2"), looks := false }, kinds := [], alts := [], laidByText := true, laidKinds := [.data, .data], laidTests := true, laidLooks := .later }
def OperandBackUptoCardSaid : Prop := Claim7.holds Tryd.pinned (.plain (OpenSpec.upto operandBackSpec)) operandBackUptoCard

/-- THE SECOND FORM's CARD OF 'sundiallaw08.OperandRight'. -/
def operandRightUptoCard : Claim7 := { stood := { row := operandRightUptoRow, standIns := [], harness := (true, "ce890f8c4758731232faa48a5b81967a9524d5a4cebb2f500abbf70cb7bb7bd2"), looks := false }, kinds := [], alts := [], laidByText := true, laidKinds := [.data, .data], laidTests := true, laidLooks := .later }
def OperandRightUptoCardSaid : Prop := Claim7.holds Tryd.pinned (.plain (OpenSpec.upto operandRightSpec)) operandRightUptoCard

/-- THE SECOND FORM's CARD OF 'sundiallaw08.OperandLong'. -/
def operandLongUptoCard : Claim7 := { stood := { row := operandLongUptoRow, standIns := [], harness := (true, "ce890f8c4758731232faa48a5b81967a9524d5a4cebb2f500abbf70cb7bb7bd2"), looks := false }, kinds := [], alts := [], laidByText := true, laidKinds := [.data, .data], laidTests := true, laidLooks := .later }
def OperandLongUptoCardSaid : Prop := Claim7.holds Tryd.pinned (.plain (OpenSpec.upto operandLongSpec)) operandLongUptoCard

/-- THE SECOND FORM's CARD OF 'sundiallaw08.OperandTells'. -/
def operandTellsUptoCard : Claim7 := { stood := { row := operandTellsUptoRow, standIns := [], harness := (true, "ce890f8c4758731232faa48a5b81967a9524d5a4cebb2f500abbf70cb7bb7bd2"), looks := false }, kinds := [], alts := [], laidByText := true, laidKinds := [.data, .data], laidTests := true, laidLooks := .later }
def OperandTellsUptoCardSaid : Prop := Claim7.holds Tryd.pinned (.plain (OpenSpec.upto operandTellsSpec)) operandTellsUptoCard

/-- THE SECOND FORM's CARD OF 'sundiallaw08.OperandParts'. -/
def operandPartsUptoCard : Claim7 := { stood := { row := operandPartsUptoRow, standIns := [], harness := (true, "ce890f8c4758731232faa48a5b81967a9524d5a4cebb2f500abbf70cb7bb7bd2"), looks := false }, kinds := [], alts := [], laidByText := true, laidKinds := [.data, .data], laidTests := true, laidLooks := .later }
def OperandPartsUptoCardSaid : Prop := Claim7.holds Tryd.pinned (.plain (OpenSpec.upto operandPartsSpec)) operandPartsUptoCard
end Rows
end Go.Proofs.YtppeidopijnnlaaDoor
