/-
  DERIVED. GIVEN WITH THE SEED: THE CARDS: each row of YtpphcfkldhemeaaDoorRows.lean that lists a variable, with what it lists TIED to the program's text (the seventh form; the later family's looks); each row that meets fmt, with fmt's text TOLD by the authors' own Lean function (tested against real Go, not proved from fmt's source: count such statements apart). THE CARD IS WHAT COUNTS. Prove the row's statement (the work); the ties are given (YtpphcfkldhemeaaDoorTie.lean); close each card by the builder's one call (the guide's Derived/Test/ToyasCard.lean, 'card_holds'). Laid BY PROGRAM, IN A SANDBOX (cutbox-door.mjs). By AI agents, Wed Nov 11 2026. No macro, syntax, notation, axiom, sorry.
-/
import Derived.Test.YtpphcfkldhemeaaDoorRows
import GoSem.ClaimSeven
namespace Go.Proofs.YtpphcfkldhemeaaDoor
namespace Rows

/-- THE TIED CARD OF 'sundiallaw22.StridedIn'. -/
def stridedInCard : Claim7 := { stood := { row := stridedInRow, standIns := [], harness := (true, "f3efe11d840ce53b0e8d1bc0d82e88200835e9427a64eb502a01e507f29052df"), looks := false }, kinds := [], alts := [], laidByText := true, laidKinds := [.data], laidTests := true, laidLooks := .later }
def StridedInCardSaid : Prop := Claim7.holds Tryd.pinned (.plain (OpenSpec.ofChange stridedInSpec)) stridedInCard

/-- THE TIED CARD OF 'sundiallaw22.StridedOrder'. -/
def stridedOrderCard : Claim7 := { stood := { row := stridedOrderRow, standIns := [], harness := (true, "f3efe11d840ce53b0e8d1bc0d82e88200835e9427a64eb502a01e507f29052df"), looks := false }, kinds := [], alts := [], laidByText := true, laidKinds := [.data], laidTests := true, laidLooks := .later }
def StridedOrderCardSaid : Prop := Claim7.holds Tryd.pinned (.plain (OpenSpec.ofChange stridedOrderSpec)) stridedOrderCard

/-- THE TIED CARD OF 'sundiallaw22.StridedWidens'. -/
def stridedWidensCard : Claim7 := { stood := { row := stridedWidensRow, standIns := [], harness := (true, "f3efe11d840ce53b0e8d1bc0d82e88200835e9427a64eb502a01e507f29052df"), looks := false }, kinds := [], alts := [], laidByText := true, laidKinds := [.data], laidTests := true, laidLooks := .later }
def StridedWidensCardSaid : Prop := Claim7.holds Tryd.pinned (.plain (OpenSpec.ofChange stridedWidensSpec)) stridedWidensCard

/-- THE SECOND FORM's CARD OF 'sundiallaw22.StridedIn'. -/
def stridedInUptoCard : Claim7 := { stood := { row := stridedInUptoRow, standIns := [], harness := (true, "f3efe11d840ce53b0e8d1bc0d82e88200835e9427a64eb502a01e507f29052df"), looks := false }, kinds := [], alts := [], laidByText := true, laidKinds := [.data], laidTests := true, laidLooks := .later }
def StridedInUptoCardSaid : Prop := Claim7.holds Tryd.pinned (.plain (OpenSpec.upto stridedInSpec)) stridedInUptoCard

/-- THE SECOND FORM's CARD OF 'sundiallaw22.StridedOrder'. -/
def stridedOrderUptoCard : Claim7 := { stood := { row := stridedOrderUptoRow, standIns := [], harness := (true, "f3efe11d840ce53b0e8d1bc0d82e88200835e9427a64eb502a01e507f29052df"), looks := false }, kinds := [], alts := [], laidByText := true, laidKinds := [.data], laidTests := true, laidLooks := .later }
def StridedOrderUptoCardSaid : Prop := Claim7.holds Tryd.pinned (.plain (OpenSpec.upto stridedOrderSpec)) stridedOrderUptoCard

/-- THE SECOND FORM's CARD OF 'sundiallaw22.StridedWidens'. -/
def stridedWidensUptoCard : Claim7 := { stood := { row := stridedWidensUptoRow, standIns := [], harness := (true, "f3efe11d840ce53b0e8d1bc0d82e88200835e9427a64eb502a01e507f29052df"), looks := false }, kinds := [], alts := [], laidByText := true, laidKinds := [.data], laidTests := true, laidLooks := .later }
def StridedWidensUptoCardSaid : Prop := Claim7.holds Tryd.pinned (.plain (OpenSpec.upto stridedWidensSpec)) stridedWidensUptoCard
end Rows
end Go.Proofs.YtpphcfkldhemeaaDoor
