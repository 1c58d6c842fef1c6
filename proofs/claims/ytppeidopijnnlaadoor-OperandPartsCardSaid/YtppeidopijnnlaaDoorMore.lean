import Derived.Test.YtppeidopijnnlaaDoorBackC
namespace Go.Proofs.YtppeidopijnnlaaDoor.B
open Go.RowKit Go.Proofs.YtppeidopijnnlaaDoorW.PrintWords Go.Proofs.YtppeidopijnnlaaDoorW.PrintMore Go.RF
set_option linter.unusedVariables false
set_option linter.unusedSimpArgs false
attribute [local go_sem] Oper.semAt_some
/-- what 'more' adds to a register's number: eight, where q is odd -/
def mo (q : Int) : Int := wrap64 (wrap64 (Go.bits .and .u8 q 1) * 8)
theorem bit_cases : ∀ q : Fin 256, Go.bits .and .u8 (q.val : Int) 1 = (q.val : Int) % 2 := by decide +kernel
theorem mo_eq (q : Int) (h0 : 0 ≤ q) (h1 : q < 256) : mo q = q % 2 * 8 := by
  have h := bit_cases ⟨q.toNat, by omega⟩
  have e : (((⟨q.toNat, by omega⟩ : Fin 256).val : Nat) : Int) = q := by show ((q.toNat : Nat) : Int) = q; omega
  rw [e] at h
  unfold mo
  rw [h]
  unfold wrap64
  omega
set_option maxRecDepth 100000 in
theorem more0 (rx : Nat) (rex : Int) (w : World) (h : w.cell? ⟨rx, 0, none⟩ = some (.int .u8 rex)) :
    Calls Tryd.prog 28 #[.int .i64 0, .pointer (some ⟨rx, 0, none⟩)] w fun e w' => e = .returned (.int .i64 (mo rex)) ∧ w' = w := by
  go_enter Tryd.func28, Tryd.ntmps28
  go_wp2
  go_ret
  exact ⟨rfl, rfl⟩
set_option maxRecDepth 100000 in
theorem more1 (rx : Nat) (rex : Int) (w : World) (h : w.cell? ⟨rx, 0, none⟩ = some (.int .u8 rex)) :
    Calls Tryd.prog 28 #[.int .i64 1, .pointer (some ⟨rx, 0, none⟩)] w fun e w' => e = .returned (.int .i64 (mo (rex / 2))) ∧ w' = w := by
  go_enter Tryd.func28, Tryd.ntmps28
  go_wp2
  go_ret
  exact ⟨rfl, rfl⟩
set_option maxRecDepth 100000 in
theorem more2 (rx : Nat) (rex : Int) (w : World) (h : w.cell? ⟨rx, 0, none⟩ = some (.int .u8 rex)) :
    Calls Tryd.prog 28 #[.int .i64 2, .pointer (some ⟨rx, 0, none⟩)] w fun e w' => e = .returned (.int .i64 (mo (rex / 4))) ∧ w' = w := by
  go_enter Tryd.func28, Tryd.ntmps28
  go_wp2
  go_ret
  exact ⟨rfl, rfl⟩
/-- how wide a displacement is -/
def wid (m : Int) : Int := if m = 1 then 1 else if m = 2 then 4 else 0
theorem idxW (m : Int) (h0 : 0 ≤ m) (h1 : m < 4) (w : World) : (Instr.index 49 (.agg #[.int .i64 0, .int .i64 1, .int .i64 4, .int .i64 0]) (.int .u8 m)).run Tryd.prog w = .ok (.int .i64 (wid m)) w := by
  rcases (by omega : m = 0 ∨ m = 1 ∨ m = 2 ∨ m = 3) with rfl | rfl | rfl | rfl
  all_goals simp [Instr.index, run_underlying Tryd.underlying49, asIntOf, go_sem, wid]
end Go.Proofs.YtppeidopijnnlaaDoor.B
