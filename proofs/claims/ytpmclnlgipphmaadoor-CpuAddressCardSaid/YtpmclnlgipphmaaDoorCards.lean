/-
  DERIVED. GIVEN WITH THE SEED: THE CARDS: each row of YtpmclnlgipphmaaDoorRows.lean that lists a variable, with what it lists TIED to the program's text (the seventh form; the later family's looks); each row that meets fmt, with fmt's text TOLD by the authors' own Lean function (tested against real Go, not proved from fmt's source: count such statements apart). THE CARD IS WHAT COUNTS. Prove the row's statement (the work); the ties are given (YtpmclnlgipphmaaDoorTie.lean); close each card by the builder's one call (the guide's Derived/Test/ToyasCard.lean, 'card_holds'). Laid BY PROGRAM, IN A SANDBOX (cutbox-door.mjs). By AI agents, Wed Nov 11 2026. No macro, syntax, notation, axiom, sorry.
-/
import Derived.Test.YtpmclnlgipphmaaDoorRows
import GoSem.ClaimSeven
namespace Go.Proofs.YtpmclnlgipphmaaDoor
namespace Rows

/-- THE TIED CARD OF 'sundiallaw14.CpuBack'. -/
def cpuBackCard : Claim7 := { stood := { row := cpuBackRow, standIns := [], harness := (true, "e9ee359ac8cb1a941a1d8ff47a9105931ca34af6fdbdabfa8a7145b435610fd2"), looks := false }, kinds := [], alts := [], laidByText := true, laidKinds := [.funcs], laidTests := true, laidLooks := .later }
def CpuBackCardSaid : Prop := Claim7.holds Tryd.pinned (.plain (OpenSpec.ofChange cpuBackSpec)) cpuBackCard

/-- THE TIED CARD OF 'sundiallaw14.CpuAddress'. -/
def cpuAddressCard : Claim7 := { stood := { row := cpuAddressRow, standIns := [], harness := (true, "e9ee359ac8cb1a941a1d8ff47a9105931ca34af6fdbdabfa8a7145b435610fd2"), looks := false }, kinds := [], alts := [], laidByText := true, laidKinds := [.funcs], laidTests := true, laidLooks := .later }
def CpuAddressCardSaid : Prop := Claim7.holds Tryd.pinned (.plain (OpenSpec.ofChange cpuAddressSpec)) cpuAddressCard

/-- THE TIED CARD OF 'sundiallaw14.CpuConds'. -/
def cpuCondsCard : Claim7 := { stood := { row := cpuCondsRow, standIns := [], harness := (true, "e9ee359ac8cb1a941a1d8ff47a9105931ca34af6fdbdabfa8a7145b435610fd2"), looks := false }, kinds := [], alts := [], laidByText := true, laidKinds := [.funcs], laidTests := true, laidLooks := .later }
def CpuCondsCardSaid : Prop := Claim7.holds Tryd.pinned (.plain (OpenSpec.ofChange cpuCondsSpec)) cpuCondsCard

/-- THE SECOND FORM's CARD OF 'sundiallaw14.CpuBack'. -/
def cpuBackUptoCard : Claim7 := { stood := { row := cpuBackUptoRow, standIns := [], harness := (true, "e9ee359ac8cb1a941a1d8ff47a9105931ca34af6fdbdabfa8a7145b435610fd2"), looks := false }, kinds := [], alts := [], laidByText := true, laidKinds := [.funcs], laidTests := true, laidLooks := .later }
def CpuBackUptoCardSaid : Prop := Claim7.holds Tryd.pinned (.plain (OpenSpec.upto cpuBackSpec)) cpuBackUptoCard

/-- THE SECOND FORM's CARD OF 'sundiallaw14.CpuAddress'. -/
def cpuAddressUptoCard : Claim7 := { stood := { row := cpuAddressUptoRow, standIns := [], harness := (true, "e9ee359ac8cb1a941a1d8ff47a9105931ca34af6fdbdabfa8a7145b435610fd2"), looks := false }, kinds := [], alts := [], laidByText := true, laidKinds := [.funcs], laidTests := true, laidLooks := .later }
def CpuAddressUptoCardSaid : Prop := Claim7.holds Tryd.pinned (.plain (OpenSpec.upto cpuAddressSpec)) cpuAddressUptoCard

/-- THE SECOND FORM's CARD OF 'sundiallaw14.CpuConds'. -/
def cpuCondsUptoCard : Claim7 := { stood := { row := cpuCondsUptoRow, standIns := [], harness := (true, "e9ee359ac8cb1a941a1d8ff47a9105931ca34af6fdbdabfa8a7145b435610fd2"), looks := false }, kinds := [], alts := [], laidByText := true, laidKinds := [.funcs], laidTests := true, laidLooks := .later }
def CpuCondsUptoCardSaid : Prop := Claim7.holds Tryd.pinned (.plain (OpenSpec.upto cpuCondsSpec)) cpuCondsUptoCard
end Rows
end Go.Proofs.YtpmclnlgipphmaaDoor
