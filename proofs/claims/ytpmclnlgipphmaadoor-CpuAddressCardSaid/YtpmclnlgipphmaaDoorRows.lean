/-
  NARROWER THAN 'FOR EVERY INPUT', by the rows' own cells (each row's printed sentence says how): CpuBack: laid · CpuAddress: laid · CpuConds: laid.
  DERIVED. THE GIVEN ROWS OF THIS SEAT. 3 by the template 'for every input the law returns true; each argument reads behind the call as it read before'; 0 by the template 'total and deterministic' (their statements: YtpmclnlgipphmaaDoorTotals.lean).
  GIVEN WITH THE SEED: the statements are not yours to turn. If you find one false, say at which input.
  Laid BY PROGRAM, IN A SANDBOX (cutbox-rows.mjs): the forced cells as the released guide's own fill.sh prints them over the translation 88ce583e7e64f3ec… (all of the seat's roots in one cut). By AI agents, Wed Nov 11 2026. No macro, syntax, notation, axiom, sorry.
-/
import Derived.Test.YtpmclnlgipphmaaDoorChecked
import GoSem.Claim
import GoSem.ClaimJoined
import GoSem.ClaimMapViews
import Derived.JoinedTies
import Derived.KernelRfl
namespace Go.Proofs.YtpmclnlgipphmaaDoor
/- THE CELL 'sum', in the pinned program and in every row, IS THE sha256 OF THE DUMP (.gsa) THAT YtpmclnlgipphmaaDoorProg.lean LOADS. Nothing in Lean hashes anything: it is a label: what it is worth is what the hold of that sum in a sandbox is worth. -/
noncomputable def Tryd.pinned : Pinned := { name := "ytpmclnlgipphmaadoor", sum := "88ce583e7e64f3ec09a1f0ac39383e57639e18e2d903a0a7e19e7b435e91e92d", checked := Tryd.checked }
namespace Rows
def none {H : Type} : Left H := { results := [], args := [] }

/- WHAT THE LISTED PACKAGE-LEVEL VARIABLES READ AS WHEN THE CALL BEGINS. Each datum BY PROGRAM (the guide's laid-datum.mjs) off the statement by which the dump's own 'gosem.cut.vars' lays the variable. In a bare row this is a premise. The card (YtpmclnlgipphmaaDoorCards.lean) ties it to the program's text. -/
def laid_sundial_cpu_holds {H : Type} : DataW H := .iface "func table" (.agg [.iface "func" (.lit (.string [115, 117, 110, 100, 105, 97, 108, 47, 99, 112, 117, 46, 104, 111, 108, 100, 115, 36, 49])), .iface "func" (.lit (.string [115, 117, 110, 100, 105, 97, 108, 47, 99, 112, 117, 46, 104, 111, 108, 100, 115, 36, 50])), .iface "func" (.lit (.string [115, 117, 110, 100, 105, 97, 108, 47, 99, 112, 117, 46, 104, 111, 108, 100, 115, 36, 51])), .iface "func" (.lit (.string [115, 117, 110, 100, 105, 97, 108, 47, 99, 112, 117, 46, 104, 111, 108, 100, 115, 36, 52])), .iface "func" (.lit (.string [115, 117, 110, 100, 105, 97, 108, 47, 99, 112, 117, 46, 104, 111, 108, 100, 115, 36, 53])), .iface "func" (.lit (.string [115, 117, 110, 100, 105, 97, 108, 47, 99, 112, 117, 46, 104, 111, 108, 100, 115, 36, 54])), .iface "func" (.lit (.string [115, 117, 110, 100, 105, 97, 108, 47, 99, 112, 117, 46, 104, 111, 108, 100, 115, 36, 55])), .iface "func" (.lit (.string [115, 117, 110, 100, 105, 97, 108, 47, 99, 112, 117, 46, 104, 111, 108, 100, 115, 36, 56]))])

/-- 'sundiallaw14.CpuBack': WHATEVER THE INPUT: true; the input reads as it did. -/
def cpuBackSpec : ChangeSpec := { name := "cpuBack", fn := fun _ => fun
  | [d1, d2, d3, d4] => { results := [.lit (.bool true)], args := [d1, d2, d3, d4] }
  | _ => none }
def cpuBackRow : OpenClaim := { program := "ytpmclnlgipphmaadoor", sum := "88ce583e7e64f3ec09a1f0ac39383e57639e18e2d903a0a7e19e7b435e91e92d", func := "sundial/sundiallaw14.CpuBack", spec := "cpuBack", unfollowed := true, recurses := true, named := ["sundial/cpu.holds"], apart := false, laid := [("sundial/cpu.holds", laid_sundial_cpu_holds)] }
def CpuBackSaid : Prop := cpuBackRow.holds Tryd.pinned (OpenSpec.ofChange cpuBackSpec)

/-- ITS FALSE NEIGHBOUR: 'it returns false'. Refute it at one input. -/
def cpuBackWrong : ChangeSpec := { name := "cpuBack", fn := fun _ => fun
  | [d1, d2, d3, d4] => { results := [.lit (.bool false)], args := [d1, d2, d3, d4] }
  | _ => none }
def CpuBackWrongFalsely : Prop := cpuBackRow.holds Tryd.pinned (OpenSpec.ofChange cpuBackWrong)

/-- 'sundiallaw14.CpuAddress': WHATEVER THE INPUT: true; the input reads as it did. -/
def cpuAddressSpec : ChangeSpec := { name := "cpuAddress", fn := fun _ => fun
  | [d1, d2, d3, d4] => { results := [.lit (.bool true)], args := [d1, d2, d3, d4] }
  | _ => none }
def cpuAddressRow : OpenClaim := { program := "ytpmclnlgipphmaadoor", sum := "88ce583e7e64f3ec09a1f0ac39383e57639e18e2d903a0a7e19e7b435e91e92d", func := "sundial/sundiallaw14.CpuAddress", spec := "cpuAddress", unfollowed := true, recurses := true, named := ["sundial/cpu.holds"], apart := false, laid := [("sundial/cpu.holds", laid_sundial_cpu_holds)] }
def CpuAddressSaid : Prop := cpuAddressRow.holds Tryd.pinned (OpenSpec.ofChange cpuAddressSpec)

/-- ITS FALSE NEIGHBOUR: 'it returns false'. Refute it at one input. -/
def cpuAddressWrong : ChangeSpec := { name := "cpuAddress", fn := fun _ => fun
  | [d1, d2, d3, d4] => { results := [.lit (.bool false)], args := [d1, d2, d3, d4] }
  | _ => none }
def CpuAddressWrongFalsely : Prop := cpuAddressRow.holds Tryd.pinned (OpenSpec.ofChange cpuAddressWrong)

/-- 'sundiallaw14.CpuConds': WHATEVER THE INPUT: true; the input reads as it did. -/
def cpuCondsSpec : ChangeSpec := { name := "cpuConds", fn := fun _ => fun
  | [d1, d2] => { results := [.lit (.bool true)], args := [d1, d2] }
  | _ => none }
def cpuCondsRow : OpenClaim := { program := "ytpmclnlgipphmaadoor", sum := "88ce583e7e64f3ec09a1f0ac39383e57639e18e2d903a0a7e19e7b435e91e92d", func := "sundial/sundiallaw14.CpuConds", spec := "cpuConds", unfollowed := true, recurses := true, named := ["sundial/cpu.holds"], apart := false, laid := [("sundial/cpu.holds", laid_sundial_cpu_holds)] }
def CpuCondsSaid : Prop := cpuCondsRow.holds Tryd.pinned (OpenSpec.ofChange cpuCondsSpec)

/-- ITS FALSE NEIGHBOUR: 'it returns false'. Refute it at one input. -/
def cpuCondsWrong : ChangeSpec := { name := "cpuConds", fn := fun _ => fun
  | [d1, d2] => { results := [.lit (.bool false)], args := [d1, d2] }
  | _ => none }
def CpuCondsWrongFalsely : Prop := cpuCondsRow.holds Tryd.pinned (OpenSpec.ofChange cpuCondsWrong)

/- THE SECOND FORM. 'bulk': how many values and letters a reading holds, each counted each time it is reached (what is shared counts as often as it is met; a slice's spare places count too). A statement '..UptoSaid' is the law's where the arguments, and the package variables that the reading takes, are together of bulk at most 1048576: NARROWER than '..Said'. Prove '..Said' where nothing that the law and all that it calls make is longer than what came in: it says more and counts as full. Else prove '..UptoSaid'. A law counts once. -/
mutual
def uptoBulk {H : Type} : DataW H → Nat
  | .lit (.string bytes) => bytes.length + 1
  | .lit _ => 1
  | .nil => 1
  | .ptr d => uptoBulk d + 1
  | .slice elems spare => uptoBulkAll elems + uptoBulkAll spare + 1
  | .agg parts => uptoBulkAll parts + 1
  | .iface _ d => uptoBulk d + 1
  | .map entries => uptoBulkEntries entries + 1
  | .held _ => 1
def uptoBulkAll {H : Type} : List (DataW H) → Nat
  | [] => 0
  | d :: r => uptoBulk d + uptoBulkAll r
def uptoBulkEntries {H : Type} : List (Lit × DataW H) → Nat
  | [] => 0
  | x :: r => uptoBulkEntry x + uptoBulkEntries r
def uptoBulkEntry {H : Type} : Lit × DataW H → Nat
  | (.string bytes, d) => bytes.length + uptoBulk d + 1
  | (_, d) => uptoBulk d + 1
 end
def uptoSmall : (H : Type) → List (DataW H) → Bool := fun _ ds => decide (uptoBulkAll ds ≤ 1048576)
def OpenSpec.upto (s : _root_.Go.ChangeSpec) : _root_.Go.OpenSpec := { _root_.Go.OpenSpec.ofChange s with cond := some uptoSmall }

/-- 'sundiallaw14.CpuBack', WHERE WHAT IT READS IS OF BULK AT MOST 1048576: true; the input reads as it did. -/
def cpuBackUptoRow : OpenClaim := { program := "ytpmclnlgipphmaadoor", sum := "88ce583e7e64f3ec09a1f0ac39383e57639e18e2d903a0a7e19e7b435e91e92d", func := "sundial/sundiallaw14.CpuBack", spec := "cpuBack", unfollowed := true, recurses := true, named := ["sundial/cpu.holds"], apart := false, laid := [("sundial/cpu.holds", laid_sundial_cpu_holds)], narrowed := true }
def CpuBackUptoSaid : Prop := cpuBackUptoRow.holds Tryd.pinned (OpenSpec.upto cpuBackSpec)

/-- 'sundiallaw14.CpuAddress', WHERE WHAT IT READS IS OF BULK AT MOST 1048576: true; the input reads as it did. -/
def cpuAddressUptoRow : OpenClaim := { program := "ytpmclnlgipphmaadoor", sum := "88ce583e7e64f3ec09a1f0ac39383e57639e18e2d903a0a7e19e7b435e91e92d", func := "sundial/sundiallaw14.CpuAddress", spec := "cpuAddress", unfollowed := true, recurses := true, named := ["sundial/cpu.holds"], apart := false, laid := [("sundial/cpu.holds", laid_sundial_cpu_holds)], narrowed := true }
def CpuAddressUptoSaid : Prop := cpuAddressUptoRow.holds Tryd.pinned (OpenSpec.upto cpuAddressSpec)

/-- 'sundiallaw14.CpuConds', WHERE WHAT IT READS IS OF BULK AT MOST 1048576: true; the input reads as it did. -/
def cpuCondsUptoRow : OpenClaim := { program := "ytpmclnlgipphmaadoor", sum := "88ce583e7e64f3ec09a1f0ac39383e57639e18e2d903a0a7e19e7b435e91e92d", func := "sundial/sundiallaw14.CpuConds", spec := "cpuConds", unfollowed := true, recurses := true, named := ["sundial/cpu.holds"], apart := false, laid := [("sundial/cpu.holds", laid_sundial_cpu_holds)], narrowed := true }
def CpuCondsUptoSaid : Prop := cpuCondsUptoRow.holds Tryd.pinned (OpenSpec.upto cpuCondsSpec)

end Rows
end Go.Proofs.YtpmclnlgipphmaaDoor
