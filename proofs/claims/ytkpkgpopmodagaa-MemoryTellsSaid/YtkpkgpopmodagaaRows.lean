/-
  No cell of these rows narrows 'for every input' (looked for: loops, veiled, ifaces, maps, wideKeys, modest, calm, conditions, laid).
  DERIVED. THE GIVEN ROWS OF THIS SEAT. 5 by the template 'for every input the law returns true; each argument reads behind the call as it read before'; 0 by the template 'total and deterministic' (their statements: YtkpkgpopmodagaaTotals.lean).
  GIVEN WITH THE SEED: the statements are not yours to turn. If you find one false, say at which input.
  Laid BY PROGRAM, IN A SANDBOX (cutbox-rows.mjs): the forced cells as the released guide's own fill.sh prints them over the translation 24823e4c477114b6… (all of the seat's roots in one cut). By AI agents, Wed Nov 11 2026. No macro, syntax, notation, axiom, sorry.
-/
import Derived.Test.YtkpkgpopmodagaaChecked
import GoSem.Claim
import GoSem.ClaimJoined
import GoSem.ClaimMapViews
import Derived.JoinedTies
import Derived.KernelRfl
namespace Go.Proofs.Ytkpkgpopmodagaa
/- THE CELL 'sum', in the pinned program and in every row, IS THE sha256 OF THE DUMP (.gsa) THAT YtkpkgpopmodagaaProg.lean LOADS. Nothing in Lean hashes anything: it is a label: what it is worth is what the hold of that sum in a sandbox is worth. -/
noncomputable def Try.pinned : Pinned := { name := "ytkpkgpopmodagaa", sum := "24823e4c477114b673ec5840ec2411ea9c1a3425d04b5c9ab0a8061e41a48d2a", checked := Try.checked }
namespace Rows
def none {H : Type} : Left H := { results := [], args := [] }

/-- 'sundiallaw12.MemoryBack': WHATEVER THE INPUT: true; the input reads as it did. -/
def memoryBackSpec : ChangeSpec := { name := "memoryBack", fn := fun _ => fun
  | [d1, d2, d3, d4] => { results := [.lit (.bool true)], args := [d1, d2, d3, d4] }
  | _ => none }
def memoryBackRow : OpenClaim := { program := "ytkpkgpopmodagaa", sum := "24823e4c477114b673ec5840ec2411ea9c1a3425d04b5c9ab0a8061e41a48d2a", func := "sundial/sundiallaw12.MemoryBack", spec := "memoryBack", unfollowed := true, recurses := true, apart := false }
def MemoryBackSaid : Prop := memoryBackRow.holds Try.pinned (OpenSpec.ofChange memoryBackSpec)

/-- ITS FALSE NEIGHBOUR: 'it returns false'. Refute it at one input. -/
def memoryBackWrong : ChangeSpec := { name := "memoryBack", fn := fun _ => fun
  | [d1, d2, d3, d4] => { results := [.lit (.bool false)], args := [d1, d2, d3, d4] }
  | _ => none }
def MemoryBackWrongFalsely : Prop := memoryBackRow.holds Try.pinned (OpenSpec.ofChange memoryBackWrong)

/-- 'sundiallaw12.MemoryNever': WHATEVER THE INPUT: true; the input reads as it did. -/
def memoryNeverSpec : ChangeSpec := { name := "memoryNever", fn := fun _ => fun
  | [d1, d2, d3, d4, d5] => { results := [.lit (.bool true)], args := [d1, d2, d3, d4, d5] }
  | _ => none }
def memoryNeverRow : OpenClaim := { program := "ytkpkgpopmodagaa", sum := "24823e4c477114b673ec5840ec2411ea9c1a3425d04b5c9ab0a8061e41a48d2a", func := "sundial/sundiallaw12.MemoryNever", spec := "memoryNever", unfollowed := true, recurses := true, apart := false }
def MemoryNeverSaid : Prop := memoryNeverRow.holds Try.pinned (OpenSpec.ofChange memoryNeverSpec)

/-- ITS FALSE NEIGHBOUR: 'it returns false'. Refute it at one input. -/
def memoryNeverWrong : ChangeSpec := { name := "memoryNever", fn := fun _ => fun
  | [d1, d2, d3, d4, d5] => { results := [.lit (.bool false)], args := [d1, d2, d3, d4, d5] }
  | _ => none }
def MemoryNeverWrongFalsely : Prop := memoryNeverRow.holds Try.pinned (OpenSpec.ofChange memoryNeverWrong)

/-- 'sundiallaw12.MemoryParts': WHATEVER THE INPUT: true; the input reads as it did. -/
def memoryPartsSpec : ChangeSpec := { name := "memoryParts", fn := fun _ => fun
  | [d1, d2, d3, d4] => { results := [.lit (.bool true)], args := [d1, d2, d3, d4] }
  | _ => none }
def memoryPartsRow : OpenClaim := { program := "ytkpkgpopmodagaa", sum := "24823e4c477114b673ec5840ec2411ea9c1a3425d04b5c9ab0a8061e41a48d2a", func := "sundial/sundiallaw12.MemoryParts", spec := "memoryParts", unfollowed := true, recurses := true, apart := false }
def MemoryPartsSaid : Prop := memoryPartsRow.holds Try.pinned (OpenSpec.ofChange memoryPartsSpec)

/-- ITS FALSE NEIGHBOUR: 'it returns false'. Refute it at one input. -/
def memoryPartsWrong : ChangeSpec := { name := "memoryParts", fn := fun _ => fun
  | [d1, d2, d3, d4] => { results := [.lit (.bool false)], args := [d1, d2, d3, d4] }
  | _ => none }
def MemoryPartsWrongFalsely : Prop := memoryPartsRow.holds Try.pinned (OpenSpec.ofChange memoryPartsWrong)

/-- 'sundiallaw12.MemoryOrder': WHATEVER THE INPUT: true; the input reads as it did. -/
def memoryOrderSpec : ChangeSpec := { name := "memoryOrder", fn := fun _ => fun
  | [d1, d2, d3, d4, d5] => { results := [.lit (.bool true)], args := [d1, d2, d3, d4, d5] }
  | _ => none }
def memoryOrderRow : OpenClaim := { program := "ytkpkgpopmodagaa", sum := "24823e4c477114b673ec5840ec2411ea9c1a3425d04b5c9ab0a8061e41a48d2a", func := "sundial/sundiallaw12.MemoryOrder", spec := "memoryOrder", unfollowed := true, recurses := true, apart := false }
def MemoryOrderSaid : Prop := memoryOrderRow.holds Try.pinned (OpenSpec.ofChange memoryOrderSpec)

/-- ITS FALSE NEIGHBOUR: 'it returns false'. Refute it at one input. -/
def memoryOrderWrong : ChangeSpec := { name := "memoryOrder", fn := fun _ => fun
  | [d1, d2, d3, d4, d5] => { results := [.lit (.bool false)], args := [d1, d2, d3, d4, d5] }
  | _ => none }
def MemoryOrderWrongFalsely : Prop := memoryOrderRow.holds Try.pinned (OpenSpec.ofChange memoryOrderWrong)

/-- 'sundiallaw12.MemoryTells': WHATEVER THE INPUT: true; the input reads as it did. -/
def memoryTellsSpec : ChangeSpec := { name := "memoryTells", fn := fun _ => fun
  | [d1, d2, d3, d4, d5] => { results := [.lit (.bool true)], args := [d1, d2, d3, d4, d5] }
  | _ => none }
def memoryTellsRow : OpenClaim := { program := "ytkpkgpopmodagaa", sum := "24823e4c477114b673ec5840ec2411ea9c1a3425d04b5c9ab0a8061e41a48d2a", func := "sundial/sundiallaw12.MemoryTells", spec := "memoryTells", unfollowed := true, recurses := true, apart := false }
def MemoryTellsSaid : Prop := memoryTellsRow.holds Try.pinned (OpenSpec.ofChange memoryTellsSpec)

/-- ITS FALSE NEIGHBOUR: 'it returns false'. Refute it at one input. -/
def memoryTellsWrong : ChangeSpec := { name := "memoryTells", fn := fun _ => fun
  | [d1, d2, d3, d4, d5] => { results := [.lit (.bool false)], args := [d1, d2, d3, d4, d5] }
  | _ => none }
def MemoryTellsWrongFalsely : Prop := memoryTellsRow.holds Try.pinned (OpenSpec.ofChange memoryTellsWrong)

/- THE SECOND FORM. 'bulk': how many values and letters a reading holds, each counted each time it is reached (what is shared counts as often as it is met; a slice's spare places count too). A statement '..UptoSaid' is the law's where the arguments, and the package variables that the reading takes, are together of bulk at most 1048576: NARROWER than '..Said'. Prove '..Said' where nothing that the law and all that it calls make is longer than what came in: it says more and counts as full. Else prove '..UptoSaid'. A law counts once. -/
mutual
def uptoBulk {H : Type} : DataW H → Nat
  | .lit (.string bytes) => bytes.length + 1
  | .lit _ => 1
  | .nil => 1
  | .ptr d => uptoBulk d + 1
  | .slice elems spare => uptoBulkAll elems + uptoBulkAll spare + 1
  | .agg parts => uptoBulkAll parts + 1
  | .iface _ d => uptoBulk d + 1
  | .map entries => uptoBulkEntries entries + 1
  | .held _ => 1
def uptoBulkAll {H : Type} : List (DataW H) → Nat
  | [] => 0
  | d :: r => uptoBulk d + uptoBulkAll r
def uptoBulkEntries {H : Type} : List (Lit × DataW H) → Nat
  | [] => 0
  | x :: r => uptoBulkEntry x + uptoBulkEntries r
def uptoBulkEntry {H : Type} : Lit × DataW H → Nat
  | (.string bytes, d) => bytes.length + uptoBulk d + 1
  | (_, d) => uptoBulk d + 1
 end
def uptoSmall : (H : Type) → List (DataW H) → Bool := fun _ ds => decide (uptoBulkAll ds ≤ 1048576)
def OpenSpec.upto (s : _root_.Go.ChangeSpec) : _root_.Go.OpenSpec := { _root_.Go.OpenSpec.ofChange s with cond := some uptoSmall }

/-- 'sundiallaw12.MemoryBack', WHERE WHAT IT READS IS OF BULK AT MOST 1048576: true; the input reads as it did. -/
def memoryBackUptoRow : OpenClaim := { program := "ytkpkgpopmodagaa", sum := "24823e4c477114b673ec5840ec2411ea9c1a3425d04b5c9ab0a8061e41a48d2a", func := "sundial/sundiallaw12.MemoryBack", spec := "memoryBack", unfollowed := true, recurses := true, apart := false, narrowed := true }
def MemoryBackUptoSaid : Prop := memoryBackUptoRow.holds Try.pinned (OpenSpec.upto memoryBackSpec)

/-- 'sundiallaw12.MemoryNever', WHERE WHAT IT READS IS OF BULK AT MOST 1048576: true; the input reads as it did. -/
def memoryNeverUptoRow : OpenClaim := { program := "ytkpkgpopmodagaa", sum := "24823e4c477114b673ec5840ec2411ea9c1a3425d04b5c9ab0a8061e41a48d2a", func := "sundial/sundiallaw12.MemoryNever", spec := "memoryNever", unfollowed := true, recurses := true, apart := false, narrowed := true }
def MemoryNeverUptoSaid : Prop := memoryNeverUptoRow.holds Try.pinned (OpenSpec.upto memoryNeverSpec)

/-- 'sundiallaw12.MemoryParts', WHERE WHAT IT READS IS OF BULK AT MOST 1048576: true; the input reads as it did. -/
def memoryPartsUptoRow : OpenClaim := { program := "ytkpkgpopmodagaa", sum := "24823e4c477114b673ec5840ec2411ea9c1a3425d04b5c9ab0a8061e41a48d2a", func := "sundial/sundiallaw12.MemoryParts", spec := "memoryParts", unfollowed := true, recurses := true, apart := false, narrowed := true }
def MemoryPartsUptoSaid : Prop := memoryPartsUptoRow.holds Try.pinned (OpenSpec.upto memoryPartsSpec)

/-- 'sundiallaw12.MemoryOrder', WHERE WHAT IT READS IS OF BULK AT MOST 1048576: true; the input reads as it did. -/
def memoryOrderUptoRow : OpenClaim := { program := "ytkpkgpopmodagaa", sum := "24823e4c477114b673ec5840ec2411ea9c1a3425d04b5c9ab0a8061e41a48d2a", func := "sundial/sundiallaw12.MemoryOrder", spec := "memoryOrder", unfollowed := true, recurses := true, apart := false, narrowed := true }
def MemoryOrderUptoSaid : Prop := memoryOrderUptoRow.holds Try.pinned (OpenSpec.upto memoryOrderSpec)

/-- 'sundiallaw12.MemoryTells', WHERE WHAT IT READS IS OF BULK AT MOST 1048576: true; the input reads as it did. -/
def memoryTellsUptoRow : OpenClaim := { program := "ytkpkgpopmodagaa", sum := "24823e4c477114b673ec5840ec2411ea9c1a3425d04b5c9ab0a8061e41a48d2a", func := "sundial/sundiallaw12.MemoryTells", spec := "memoryTells", unfollowed := true, recurses := true, apart := false, narrowed := true }
def MemoryTellsUptoSaid : Prop := memoryTellsUptoRow.holds Try.pinned (OpenSpec.upto memoryTellsSpec)

end Rows
end Go.Proofs.Ytkpkgpopmodagaa
