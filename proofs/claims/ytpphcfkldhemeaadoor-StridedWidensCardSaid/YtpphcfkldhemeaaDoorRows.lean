/-
  NARROWER THAN 'FOR EVERY INPUT', by the rows' own cells (each row's printed sentence says how): StridedIn: laid · StridedOrder: laid · StridedWidens: laid.
  DERIVED. THE GIVEN ROWS OF THIS SEAT. 3 by the template 'for every input the law returns true; each argument reads behind the call as it read before'; 0 by the template 'total and deterministic' (their statements: YtpphcfkldhemeaaDoorTotals.lean).
  GIVEN WITH THE SEED: the statements are not yours to turn. If you find one false, say at which input.
  Laid BY PROGRAM, IN A SANDBOX (cutbox-rows.mjs): the forced cells as the released guide's own fill.sh prints them over the translation 61daede2454c4486… (all of the seat's roots in one cut). By AI agents, Wed Nov 11 2026. No macro, syntax, notation, axiom, sorry.
-/
import Derived.Test.YtpphcfkldhemeaaDoorChecked
import GoSem.Claim
import GoSem.ClaimJoined
import GoSem.ClaimMapViews
import Derived.JoinedTies
import Derived.KernelRfl
namespace Go.Proofs.YtpphcfkldhemeaaDoor
/- THE CELL 'sum', in the pinned program and in every row, IS THE sha256 OF THE DUMP (.gsa) THAT YtpphcfkldhemeaaDoorProg.lean LOADS. Nothing in Lean hashes anything: it is a label: what it is worth is what the hold of that sum in a sandbox is worth. -/
noncomputable def Tryd.pinned : Pinned := { name := "ytpphcfkldhemeaadoor", sum := "61daede2454c4486828e4fa26f8071639f3bd86c66479749cf4daa4f8edb3819", checked := Tryd.checked }
namespace Rows
def none {H : Type} : Left H := { results := [], args := [] }

/- WHAT THE LISTED PACKAGE-LEVEL VARIABLES READ AS WHEN THE CALL BEGINS. Each datum BY PROGRAM (the guide's laid-datum.mjs) off the statement by which the dump's own 'gosem.cut.vars' lays the variable. In a bare row this is a premise. The card (YtpphcfkldhemeaaDoorCards.lean) ties it to the program's text. -/
def laid_sundial_bits_masks {H : Type} : DataW H := .agg [.lit (.int .u64 255), .lit (.int .u64 255), .lit (.int .u64 65535), .lit (.int .u64 16777215), .lit (.int .u64 4294967295), .lit (.int .u64 1099511627775), .lit (.int .u64 281474976710655), .lit (.int .u64 72057594037927935), .lit (.int .u64 18446744073709551615)]

/-- 'sundiallaw22.StridedIn': WHATEVER THE INPUT: true; the input reads as it did. -/
def stridedInSpec : ChangeSpec := { name := "stridedIn", fn := fun _ => fun
  | [d1, d2, d3] => { results := [.lit (.bool true)], args := [d1, d2, d3] }
  | _ => none }
def stridedInRow : OpenClaim := { program := "ytpphcfkldhemeaadoor", sum := "61daede2454c4486828e4fa26f8071639f3bd86c66479749cf4daa4f8edb3819", func := "sundial/sundiallaw22.StridedIn", spec := "stridedIn", inPlace := ["math/bits.Add64"], unfollowed := true, recurses := true, named := ["sundial/bits.masks"], apart := false, laid := [("sundial/bits.masks", laid_sundial_bits_masks)] }
def StridedInSaid : Prop := stridedInRow.holds Tryd.pinned (OpenSpec.ofChange stridedInSpec)

/-- ITS FALSE NEIGHBOUR: 'it returns false'. Refute it at one input. -/
def stridedInWrong : ChangeSpec := { name := "stridedIn", fn := fun _ => fun
  | [d1, d2, d3] => { results := [.lit (.bool false)], args := [d1, d2, d3] }
  | _ => none }
def StridedInWrongFalsely : Prop := stridedInRow.holds Tryd.pinned (OpenSpec.ofChange stridedInWrong)

/-- 'sundiallaw22.StridedOrder': WHATEVER THE INPUT: true; the input reads as it did. -/
def stridedOrderSpec : ChangeSpec := { name := "stridedOrder", fn := fun _ => fun
  | [d1, d2, d3, d4] => { results := [.lit (.bool true)], args := [d1, d2, d3, d4] }
  | _ => none }
def stridedOrderRow : OpenClaim := { program := "ytpphcfkldhemeaadoor", sum := "61daede2454c4486828e4fa26f8071639f3bd86c66479749cf4daa4f8edb3819", func := "sundial/sundiallaw22.StridedOrder", spec := "stridedOrder", inPlace := ["math/bits.Add64"], unfollowed := true, recurses := true, named := ["sundial/bits.masks"], apart := false, laid := [("sundial/bits.masks", laid_sundial_bits_masks)] }
def StridedOrderSaid : Prop := stridedOrderRow.holds Tryd.pinned (OpenSpec.ofChange stridedOrderSpec)

/-- ITS FALSE NEIGHBOUR: 'it returns false'. Refute it at one input. -/
def stridedOrderWrong : ChangeSpec := { name := "stridedOrder", fn := fun _ => fun
  | [d1, d2, d3, d4] => { results := [.lit (.bool false)], args := [d1, d2, d3, d4] }
  | _ => none }
def StridedOrderWrongFalsely : Prop := stridedOrderRow.holds Tryd.pinned (OpenSpec.ofChange stridedOrderWrong)

/-- 'sundiallaw22.StridedWidens': WHATEVER THE INPUT: true; the input reads as it did. -/
def stridedWidensSpec : ChangeSpec := { name := "stridedWidens", fn := fun _ => fun
  | [d1, d2] => { results := [.lit (.bool true)], args := [d1, d2] }
  | _ => none }
def stridedWidensRow : OpenClaim := { program := "ytpphcfkldhemeaadoor", sum := "61daede2454c4486828e4fa26f8071639f3bd86c66479749cf4daa4f8edb3819", func := "sundial/sundiallaw22.StridedWidens", spec := "stridedWidens", inPlace := ["math/bits.Add64"], unfollowed := true, recurses := true, named := ["sundial/bits.masks"], apart := false, laid := [("sundial/bits.masks", laid_sundial_bits_masks)] }
def StridedWidensSaid : Prop := stridedWidensRow.holds Tryd.pinned (OpenSpec.ofChange stridedWidensSpec)

/-- ITS FALSE NEIGHBOUR: 'it returns false'. Refute it at one input. -/
def stridedWidensWrong : ChangeSpec := { name := "stridedWidens", fn := fun _ => fun
  | [d1, d2] => { results := [.lit (.bool false)], args := [d1, d2] }
  | _ => none }
def StridedWidensWrongFalsely : Prop := stridedWidensRow.holds Tryd.pinned (OpenSpec.ofChange stridedWidensWrong)

/- THE SECOND FORM. 'bulk': how many values and letters a reading holds, each counted each time it is reached (what is shared counts as often as it is met; a slice's spare places count too). A statement '..UptoSaid' is the law's where the arguments, and the package variables that the reading takes, are together of bulk at most 1048576: NARROWER than '..Said'. Prove '..Said' where nothing that the law and all that it calls make is longer than what came in: it says more and counts as full. Else prove '..UptoSaid'. A law counts once. -/
mutual
def uptoBulk {H : Type} : DataW H → Nat
  | .lit (.string bytes) => bytes.length + 1
  | .lit _ => 1
  | .nil => 1
  | .ptr d => uptoBulk d + 1
  | .slice elems spare => uptoBulkAll elems + uptoBulkAll spare + 1
  | .agg parts => uptoBulkAll parts + 1
  | .iface _ d => uptoBulk d + 1
  | .map entries => uptoBulkEntries entries + 1
  | .held _ => 1
def uptoBulkAll {H : Type} : List (DataW H) → Nat
  | [] => 0
  | d :: r => uptoBulk d + uptoBulkAll r
def uptoBulkEntries {H : Type} : List (Lit × DataW H) → Nat
  | [] => 0
  | x :: r => uptoBulkEntry x + uptoBulkEntries r
def uptoBulkEntry {H : Type} : Lit × DataW H → Nat
  | (.string bytes, d) => bytes.length + uptoBulk d + 1
  | (_, d) => uptoBulk d + 1
 end
def uptoSmall : (H : Type) → List (DataW H) → Bool := fun _ ds => decide (uptoBulkAll ds ≤ 1048576)
def OpenSpec.upto (s : _root_.Go.ChangeSpec) : _root_.Go.OpenSpec := { _root_.Go.OpenSpec.ofChange s with cond := some uptoSmall }

/-- 'sundiallaw22.StridedIn', WHERE WHAT IT READS IS OF BULK AT MOST 1048576: true; the input reads as it did. -/
def stridedInUptoRow : OpenClaim := { program := "ytpphcfkldhemeaadoor", sum := "61daede2454c4486828e4fa26f8071639f3bd86c66479749cf4daa4f8edb3819", func := "sundial/sundiallaw22.StridedIn", spec := "stridedIn", inPlace := ["math/bits.Add64"], unfollowed := true, recurses := true, named := ["sundial/bits.masks"], apart := false, laid := [("sundial/bits.masks", laid_sundial_bits_masks)], narrowed := true }
def StridedInUptoSaid : Prop := stridedInUptoRow.holds Tryd.pinned (OpenSpec.upto stridedInSpec)

/-- 'sundiallaw22.StridedOrder', WHERE WHAT IT READS IS OF BULK AT MOST 1048576: true; the input reads as it did. -/
def stridedOrderUptoRow : OpenClaim := { program := "ytpphcfkldhemeaadoor", sum := "61daede2454c4486828e4fa26f8071639f3bd86c66479749cf4daa4f8edb3819", func := "sundial/sundiallaw22.StridedOrder", spec := "stridedOrder", inPlace := ["math/bits.Add64"], unfollowed := true, recurses := true, named := ["sundial/bits.masks"], apart := false, laid := [("sundial/bits.masks", laid_sundial_bits_masks)], narrowed := true }
def StridedOrderUptoSaid : Prop := stridedOrderUptoRow.holds Tryd.pinned (OpenSpec.upto stridedOrderSpec)

/-- 'sundiallaw22.StridedWidens', WHERE WHAT IT READS IS OF BULK AT MOST 1048576: true; the input reads as it did. -/
def stridedWidensUptoRow : OpenClaim := { program := "ytpphcfkldhemeaadoor", sum := "61daede2454c4486828e4fa26f8071639f3bd86c66479749cf4daa4f8edb3819", func := "sundial/sundiallaw22.StridedWidens", spec := "stridedWidens", inPlace := ["math/bits.Add64"], unfollowed := true, recurses := true, named := ["sundial/bits.masks"], apart := false, laid := [("sundial/bits.masks", laid_sundial_bits_masks)], narrowed := true }
def StridedWidensUptoSaid : Prop := stridedWidensUptoRow.holds Tryd.pinned (OpenSpec.upto stridedWidensSpec)

end Rows
end Go.Proofs.YtpphcfkldhemeaaDoor
