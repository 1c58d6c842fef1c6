import Derived.Test.YtppeidopijnnlaaDoorUses
namespace Go.Proofs.YtppeidopijnnlaaDoor.B
open Go.RowKit Go.Proofs.YtppeidopijnnlaaDoorW.PrintWords Go.Proofs.YtppeidopijnnlaaDoorW.PrintMore Go.RF
set_option linter.unusedVariables false
set_option linter.unusedSimpArgs false
attribute [local go_sem] Oper.semAt_some
set_option maxRecDepth 100000 in
theorem backward_calls (A : Option Addr) (n c : Nat) (w : World) :
    Calls Tryd.prog 29 #[.slice A n c] w fun e w' =>
      e = .returned (.func (.func 37) #[] #[.pointer (some ⟨w.heap.size, 0, none⟩)]) ∧ w'.heap[w.heap.size]? = some (.cells #[.slice A n c] 24 (0, 0)) ∧ Below w.heap.size w w' := by
  go_enter Tryd.func29, Tryd.ntmps29
  go_wp2_with fail
  go_ret
  exact ⟨rfl, World.alloc_heap_new w _, below_alloc (Below.refl _ _) _⟩
/-- what 'more' adds: eight, where the prefix has the bit -/
def moreP (rex bit : Int) : Int := IntKind.i64.wrap (Go.bits .and .u8 (IntKind.u8.wrap (rex / 2 ^ bit.toNat)) 1 * 8)
end Go.Proofs.YtppeidopijnnlaaDoor.B
