/-
  NARROWER THAN 'FOR EVERY INPUT', by the rows' own cells (each row's printed sentence says how): HeaderTells: laid · HeaderBack: laid · HeaderErrors: laid · HeaderPlaces: laid · HeaderAny: laid.
  DERIVED. THE GIVEN ROWS OF THIS SEAT. 5 by the template 'for every input the law returns true; each argument reads behind the call as it read before'; 0 by the template 'total and deterministic' (their statements: YtopldeeojehklaaDoorTotals.lean).
  GIVEN WITH THE SEED: the statements are not yours to turn. If you find one false, say at which input.
  Laid BY PROGRAM, IN A SANDBOX (cutbox-rows.mjs): the forced cells as the released guide's own fill.sh prints them over the translation 551cf5960e602b87… (all of the seat's roots in one cut). By AI agents, Wed Nov 11 2026. No macro, syntax, notation, axiom, sorry.
-/
import Derived.Test.YtopldeeojehklaaDoorChecked
import GoSem.Claim
import GoSem.ClaimJoined
import GoSem.ClaimMapViews
import Derived.JoinedTies
import Derived.KernelRfl
namespace Go.Proofs.YtopldeeojehklaaDoor
/- THE CELL 'sum', in the pinned program and in every row, IS THE sha256 OF THE DUMP (.gsa) THAT YtopldeeojehklaaDoorProg.lean LOADS. Nothing in Lean hashes anything: it is a label: what it is worth is what the hold of that sum in a sandbox is worth. -/
noncomputable def Tryd.pinned : Pinned := { name := "ytopldeeojehklaadoor", sum := "551cf5960e602b878c1cc9909164a8824ce6d1ed571fff2feb82a7924060b1c2", checked := Tryd.checked }
namespace Rows
def none {H : Type} : Left H := { results := [], args := [] }

/- WHAT THE LISTED PACKAGE-LEVEL VARIABLES READ AS WHEN THE CALL BEGINS. Each datum BY PROGRAM (the guide's laid-datum.mjs) off the statement by which the dump's own 'gosem.cut.vars' lays the variable. In a bare row this is a premise. The card (YtopldeeojehklaaDoorCards.lean) ties it to the program's text. -/
def laid_sundial_header_must {H : Type} : DataW H := .agg [.agg [.agg [.lit (.int .i64 4), .lit (.int .i64 1)], .lit (.int .u64 2)], .agg [.agg [.lit (.int .i64 5), .lit (.int .i64 1)], .lit (.int .u64 1)], .agg [.agg [.lit (.int .i64 6), .lit (.int .i64 1)], .lit (.int .u64 1)], .agg [.agg [.lit (.int .i64 16), .lit (.int .i64 2)], .lit (.int .u64 2)], .agg [.agg [.lit (.int .i64 18), .lit (.int .i64 2)], .lit (.int .u64 62)], .agg [.agg [.lit (.int .i64 20), .lit (.int .i64 4)], .lit (.int .u64 1)], .agg [.agg [.lit (.int .i64 48), .lit (.int .i64 4)], .lit (.int .u64 0)], .agg [.agg [.lit (.int .i64 52), .lit (.int .i64 2)], .lit (.int .u64 64)]]
def laid_sundial_header_places {H : Type} : DataW H := .agg [.agg [.lit (.int .i64 24), .lit (.int .i64 8)], .agg [.lit (.int .i64 32), .lit (.int .i64 8)], .agg [.lit (.int .i64 40), .lit (.int .i64 8)], .agg [.lit (.int .i64 56), .lit (.int .i64 2)], .agg [.lit (.int .i64 60), .lit (.int .i64 2)], .agg [.lit (.int .i64 54), .lit (.int .i64 2)], .agg [.lit (.int .i64 58), .lit (.int .i64 2)]]
def laid_sundial_header_segment {H : Type} : DataW H := .agg [.agg [.lit (.int .i64 0), .lit (.int .i64 4)], .agg [.lit (.int .i64 4), .lit (.int .i64 4)], .agg [.lit (.int .i64 8), .lit (.int .i64 8)], .agg [.lit (.int .i64 16), .lit (.int .i64 8)], .agg [.lit (.int .i64 32), .lit (.int .i64 8)], .agg [.lit (.int .i64 40), .lit (.int .i64 8)], .agg [.lit (.int .i64 48), .lit (.int .i64 8)]]
def laid_sundial_header_section {H : Type} : DataW H := .agg [.agg [.lit (.int .i64 4), .lit (.int .i64 4)], .agg [.lit (.int .i64 24), .lit (.int .i64 8)], .agg [.lit (.int .i64 32), .lit (.int .i64 8)], .agg [.lit (.int .i64 40), .lit (.int .i64 4)], .agg [.lit (.int .i64 56), .lit (.int .i64 8)]]

/-- 'sundiallaw03.HeaderTells': WHATEVER THE INPUT: true; the input reads as it did. -/
def headerTellsSpec : ChangeSpec := { name := "headerTells", fn := fun _ => fun
  | [d1, d2, d3, d4] => { results := [.lit (.bool true)], args := [d1, d2, d3, d4] }
  | _ => none }
def headerTellsRow : OpenClaim := { program := "ytopldeeojehklaadoor", sum := "551cf5960e602b878c1cc9909164a8824ce6d1ed571fff2feb82a7924060b1c2", func := "sundial/sundiallaw03.HeaderTells", spec := "headerTells", unfollowed := true, recurses := true, named := ["sundial/header.places", "sundial/header.must", "sundial/header.segment", "sundial/header.section"], apart := false, laid := [("sundial/header.must", laid_sundial_header_must), ("sundial/header.places", laid_sundial_header_places), ("sundial/header.segment", laid_sundial_header_segment), ("sundial/header.section", laid_sundial_header_section)] }
def HeaderTellsSaid : Prop := headerTellsRow.holds Tryd.pinned (OpenSpec.ofChange headerTellsSpec)

/-- ITS FALSE NEIGHBOUR: 'it returns false'. Refute it at one input. -/
def headerTellsWrong : ChangeSpec := { name := "headerTells", fn := fun _ => fun
  | [d1, d2, d3, d4] => { results := [.lit (.bool false)], args := [d1, d2, d3, d4] }
  | _ => none }
def HeaderTellsWrongFalsely : Prop := headerTellsRow.holds Tryd.pinned (OpenSpec.ofChange headerTellsWrong)

/-- 'sundiallaw03.HeaderBack': WHATEVER THE INPUT: true; the input reads as it did. -/
def headerBackSpec : ChangeSpec := { name := "headerBack", fn := fun _ => fun
  | [d1, d2] => { results := [.lit (.bool true)], args := [d1, d2] }
  | _ => none }
def headerBackRow : OpenClaim := { program := "ytopldeeojehklaadoor", sum := "551cf5960e602b878c1cc9909164a8824ce6d1ed571fff2feb82a7924060b1c2", func := "sundial/sundiallaw03.HeaderBack", spec := "headerBack", unfollowed := true, recurses := true, named := ["sundial/header.places", "sundial/header.must", "sundial/header.segment", "sundial/header.section"], apart := false, laid := [("sundial/header.must", laid_sundial_header_must), ("sundial/header.places", laid_sundial_header_places), ("sundial/header.segment", laid_sundial_header_segment), ("sundial/header.section", laid_sundial_header_section)] }
def HeaderBackSaid : Prop := headerBackRow.holds Tryd.pinned (OpenSpec.ofChange headerBackSpec)

/-- ITS FALSE NEIGHBOUR: 'it returns false'. Refute it at one input. -/
def headerBackWrong : ChangeSpec := { name := "headerBack", fn := fun _ => fun
  | [d1, d2] => { results := [.lit (.bool false)], args := [d1, d2] }
  | _ => none }
def HeaderBackWrongFalsely : Prop := headerBackRow.holds Tryd.pinned (OpenSpec.ofChange headerBackWrong)

/-- 'sundiallaw03.HeaderErrors': WHATEVER THE INPUT: true; the input reads as it did. -/
def headerErrorsSpec : ChangeSpec := { name := "headerErrors", fn := fun _ => fun
  | [d1, d2, d3, d4] => { results := [.lit (.bool true)], args := [d1, d2, d3, d4] }
  | _ => none }
def headerErrorsRow : OpenClaim := { program := "ytopldeeojehklaadoor", sum := "551cf5960e602b878c1cc9909164a8824ce6d1ed571fff2feb82a7924060b1c2", func := "sundial/sundiallaw03.HeaderErrors", spec := "headerErrors", unfollowed := true, recurses := true, named := ["sundial/header.places", "sundial/header.must", "sundial/header.segment", "sundial/header.section"], apart := false, laid := [("sundial/header.must", laid_sundial_header_must), ("sundial/header.places", laid_sundial_header_places), ("sundial/header.segment", laid_sundial_header_segment), ("sundial/header.section", laid_sundial_header_section)] }
def HeaderErrorsSaid : Prop := headerErrorsRow.holds Tryd.pinned (OpenSpec.ofChange headerErrorsSpec)

/-- ITS FALSE NEIGHBOUR: 'it returns false'. Refute it at one input. -/
def headerErrorsWrong : ChangeSpec := { name := "headerErrors", fn := fun _ => fun
  | [d1, d2, d3, d4] => { results := [.lit (.bool false)], args := [d1, d2, d3, d4] }
  | _ => none }
def HeaderErrorsWrongFalsely : Prop := headerErrorsRow.holds Tryd.pinned (OpenSpec.ofChange headerErrorsWrong)

/-- 'sundiallaw03.HeaderPlaces': WHATEVER THE INPUT: true; the input reads as it did. -/
def headerPlacesSpec : ChangeSpec := { name := "headerPlaces", fn := fun _ => fun
  | [d1, d2, d3, d4, d5] => { results := [.lit (.bool true)], args := [d1, d2, d3, d4, d5] }
  | _ => none }
def headerPlacesRow : OpenClaim := { program := "ytopldeeojehklaadoor", sum := "551cf5960e602b878c1cc9909164a8824ce6d1ed571fff2feb82a7924060b1c2", func := "sundial/sundiallaw03.HeaderPlaces", spec := "headerPlaces", unfollowed := true, recurses := true, named := ["sundial/header.places", "sundial/header.must", "sundial/header.segment", "sundial/header.section"], apart := false, laid := [("sundial/header.must", laid_sundial_header_must), ("sundial/header.places", laid_sundial_header_places), ("sundial/header.segment", laid_sundial_header_segment), ("sundial/header.section", laid_sundial_header_section)] }
def HeaderPlacesSaid : Prop := headerPlacesRow.holds Tryd.pinned (OpenSpec.ofChange headerPlacesSpec)

/-- ITS FALSE NEIGHBOUR: 'it returns false'. Refute it at one input. -/
def headerPlacesWrong : ChangeSpec := { name := "headerPlaces", fn := fun _ => fun
  | [d1, d2, d3, d4, d5] => { results := [.lit (.bool false)], args := [d1, d2, d3, d4, d5] }
  | _ => none }
def HeaderPlacesWrongFalsely : Prop := headerPlacesRow.holds Tryd.pinned (OpenSpec.ofChange headerPlacesWrong)

/-- 'sundiallaw03.HeaderAny': WHATEVER THE INPUT: true; the input reads as it did. -/
def headerAnySpec : ChangeSpec := { name := "headerAny", fn := fun _ => fun
  | [d1, d2, d3, d4] => { results := [.lit (.bool true)], args := [d1, d2, d3, d4] }
  | _ => none }
def headerAnyRow : OpenClaim := { program := "ytopldeeojehklaadoor", sum := "551cf5960e602b878c1cc9909164a8824ce6d1ed571fff2feb82a7924060b1c2", func := "sundial/sundiallaw03.HeaderAny", spec := "headerAny", unfollowed := true, recurses := true, named := ["sundial/header.places", "sundial/header.must", "sundial/header.segment", "sundial/header.section"], apart := false, laid := [("sundial/header.must", laid_sundial_header_must), ("sundial/header.places", laid_sundial_header_places), ("sundial/header.segment", laid_sundial_header_segment), ("sundial/header.section", laid_sundial_header_section)] }
def HeaderAnySaid : Prop := headerAnyRow.holds Tryd.pinned (OpenSpec.ofChange headerAnySpec)

/-- ITS FALSE NEIGHBOUR: 'it returns false'. Refute it at one input. -/
def headerAnyWrong : ChangeSpec := { name := "headerAny", fn := fun _ => fun
  | [d1, d2, d3, d4] => { results := [.lit (.bool false)], args := [d1, d2, d3, d4] }
  | _ => none }
def HeaderAnyWrongFalsely : Prop := headerAnyRow.holds Tryd.pinned (OpenSpec.ofChange headerAnyWrong)

/- THE SECOND FORM. 'bulk': how many values and letters a reading holds, each counted each time it is reached (what is shared counts as often as it is met; a slice's spare places count too). A statement '..UptoSaid' is the law's where the arguments, and the package variables that the reading takes, are together of bulk at most 1048576: NARROWER than '..Said'. Prove '..Said' where nothing that the law and all that it calls make is longer than what came in: it says more and counts as full. Else prove '..UptoSaid'. A law counts once. -/
mutual
def uptoBulk {H : Type} : DataW H → Nat
  | .lit (.string bytes) => bytes.length + 1
  | .lit _ => 1
  | .nil => 1
  | .ptr d => uptoBulk d + 1
  | .slice elems spare => uptoBulkAll elems + uptoBulkAll spare + 1
  | .agg parts => uptoBulkAll parts + 1
  | .iface _ d => uptoBulk d + 1
  | .map entries => uptoBulkEntries entries + 1
  | .held _ => 1
def uptoBulkAll {H : Type} : List (DataW H) → Nat
  | [] => 0
  | d :: r => uptoBulk d + uptoBulkAll r
def uptoBulkEntries {H : Type} : List (Lit × DataW H) → Nat
  | [] => 0
  | x :: r => uptoBulkEntry x + uptoBulkEntries r
def uptoBulkEntry {H : Type} : Lit × DataW H → Nat
  | (.string bytes, d) => bytes.length + uptoBulk d + 1
  | (_, d) => uptoBulk d + 1
 end
def uptoSmall : (H : Type) → List (DataW H) → Bool := fun _ ds => decide (uptoBulkAll ds ≤ 1048576)
def OpenSpec.upto (s : _root_.Go.ChangeSpec) : _root_.Go.OpenSpec := { _root_.Go.OpenSpec.ofChange s with cond := some uptoSmall }

/-- 'sundiallaw03.HeaderTells', WHERE WHAT IT READS IS OF BULK AT MOST 1048576: true; the input reads as it did. -/
def headerTellsUptoRow : OpenClaim := { program := "ytopldeeojehklaadoor", sum := "551cf5960e602b878c1cc9909164a8824ce6d1ed571fff2feb82a7924060b1c2", func := "sundial/sundiallaw03.HeaderTells", spec := "headerTells", unfollowed := true, recurses := true, named := ["sundial/header.places", "sundial/header.must", "sundial/header.segment", "sundial/header.section"], apart := false, laid := [("sundial/header.must", laid_sundial_header_must), ("sundial/header.places", laid_sundial_header_places), ("sundial/header.segment", laid_sundial_header_segment), ("sundial/header.section", laid_sundial_header_section)], narrowed := true }
def HeaderTellsUptoSaid : Prop := headerTellsUptoRow.holds Tryd.pinned (OpenSpec.upto headerTellsSpec)

/-- 'sundiallaw03.HeaderBack', WHERE WHAT IT READS IS OF BULK AT MOST 1048576: true; the input reads as it did. -/
def headerBackUptoRow : OpenClaim := { program := "ytopldeeojehklaadoor", sum := "551cf5960e602b878c1cc9909164a8824ce6d1ed571fff2feb82a7924060b1c2", func := "sundial/sundiallaw03.HeaderBack", spec := "headerBack", unfollowed := true, recurses := true, named := ["sundial/header.places", "sundial/header.must", "sundial/header.segment", "sundial/header.section"], apart := false, laid := [("sundial/header.must", laid_sundial_header_must), ("sundial/header.places", laid_sundial_header_places), ("sundial/header.segment", laid_sundial_header_segment), ("sundial/header.section", laid_sundial_header_section)], narrowed := true }
def HeaderBackUptoSaid : Prop := headerBackUptoRow.holds Tryd.pinned (OpenSpec.upto headerBackSpec)

/-- 'sundiallaw03.HeaderErrors', WHERE WHAT IT READS IS OF BULK AT MOST 1048576: true; the input reads as it did. -/
def headerErrorsUptoRow : OpenClaim := { program := "ytopldeeojehklaadoor", sum := "551cf5960e602b878c1cc9909164a8824ce6d1ed571fff2feb82a7924060b1c2", func := "sundial/sundiallaw03.HeaderErrors", spec := "headerErrors", unfollowed := true, recurses := true, named := ["sundial/header.places", "sundial/header.must", "sundial/header.segment", "sundial/header.section"], apart := false, laid := [("sundial/header.must", laid_sundial_header_must), ("sundial/header.places", laid_sundial_header_places), ("sundial/header.segment", laid_sundial_header_segment), ("sundial/header.section", laid_sundial_header_section)], narrowed := true }
def HeaderErrorsUptoSaid : Prop := headerErrorsUptoRow.holds Tryd.pinned (OpenSpec.upto headerErrorsSpec)

/-- 'sundiallaw03.HeaderPlaces', WHERE WHAT IT READS IS OF BULK AT MOST 1048576: true; the input reads as it did. -/
def headerPlacesUptoRow : OpenClaim := { program := "ytopldeeojehklaadoor", sum := "551cf5960e602b878c1cc9909164a8824ce6d1ed571fff2feb82a7924060b1c2", func := "sundial/sundiallaw03.HeaderPlaces", spec := "headerPlaces", unfollowed := true, recurses := true, named := ["sundial/header.places", "sundial/header.must", "sundial/header.segment", "sundial/header.section"], apart := false, laid := [("sundial/header.must", laid_sundial_header_must), ("sundial/header.places", laid_sundial_header_places), ("sundial/header.segment", laid_sundial_header_segment), ("sundial/header.section", laid_sundial_header_section)], narrowed := true }
def HeaderPlacesUptoSaid : Prop := headerPlacesUptoRow.holds Tryd.pinned (OpenSpec.upto headerPlacesSpec)

/-- 'sundiallaw03.HeaderAny', WHERE WHAT IT READS IS OF BULK AT MOST 1048576: true; the input reads as it did. -/
def headerAnyUptoRow : OpenClaim := { program := "ytopldeeojehklaadoor", sum := "551cf5960e602b878c1cc9909164a8824ce6d1ed571fff2feb82a7924060b1c2", func := "sundial/sundiallaw03.HeaderAny", spec := "headerAny", unfollowed := true, recurses := true, named := ["sundial/header.places", "sundial/header.must", "sundial/header.segment", "sundial/header.section"], apart := false, laid := [("sundial/header.must", laid_sundial_header_must), ("sundial/header.places", laid_sundial_header_places), ("sundial/header.segment", laid_sundial_header_segment), ("sundial/header.section", laid_sundial_header_section)], narrowed := true }
def HeaderAnyUptoSaid : Prop := headerAnyUptoRow.holds Tryd.pinned (OpenSpec.upto headerAnySpec)

end Rows
end Go.Proofs.YtopldeeojehklaaDoor
