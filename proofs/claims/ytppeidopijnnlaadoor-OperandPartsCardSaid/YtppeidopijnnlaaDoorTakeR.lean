import Derived.Test.YtppeidopijnnlaaDoorTakeP
namespace Go.Proofs.YtppeidopijnnlaaDoor.B
open Go.RowKit Go.Proofs.YtppeidopijnnlaaDoorW.PrintWords Go.Proofs.YtppeidopijnnlaaDoorW.PrintMore Go.RF
set_option linter.unusedVariables false
set_option linter.unusedSimpArgs false
attribute [local go_sem] Oper.semAt_some
theorem results11 : Tryd.f11.results = #[.tmp 4, .cell 5 23, .tmp 6, .tmp 7] := rfl
theorem results_take {T : Array Value} {W : World} {b : Nat} {v0 v1 v2 v3 v4 v5 v6 v7 : Value} (h : W.heap[b]? = some (.cells #[v0, v1, v2, v3, v4, v5, v6, v7] 23 (0, 0))) (ht : T.getD 5 undef = .pointer (some ⟨b, 0, none⟩)) :
    (results Tryd.f11 T).run Tryd.prog W = .ok (.tuple #[T.getD 4 undef, .agg #[v0, v1, v2, v3, v4, v5, v6, v7], T.getD 6 undef, T.getD 7 undef]) W := by
  obtain ⟨⟨q0, q1, q2, q3, q4, q5, q6, q7⟩, -⟩ := rows8 h
  have hu23 := Tryd.underlying23
  have ht1 : T[5]?.getD undef = .pointer (some ⟨b, 0, none⟩) := by rw [← ht]; simp
  simp only [results, results11]
  simp [go_sem, ht1, q0, q1, q2, q3, q4, q5, q6, q7]
end Go.Proofs.YtppeidopijnnlaaDoor.B
