/- Conditions. -/
import Derived.Test.YtpmclnlgipphmaaDoorBq3
namespace Go.Proofs.YtpmclnlgipphmaaDoor.B
open Go.RowKit Go.Proofs.YtpmclnlgipphmaaDoorW.PrintWords Go.Proofs.YtpmclnlgipphmaaDoorW.PrintLast Go.Proofs.YtpmclnlgipphmaaDoorW.PrintMore
attribute [local go_sem] max2_int min2_int max_two min_two max_three min_three max_four min_four   -- for this text's walks alone
set_option linter.unusedVariables false
set_option linter.unusedSimpArgs false
def cpu_holds_1.f (a0_0 : Bool) (a0_1 : Bool) (a0_2 : Bool) (a0_3 : Bool) (a0_4 : Bool) : Option (Bool) := some a0_3
set_option maxHeartbeats 8000000 in
set_option maxRecDepth 100000 in
theorem cpu_holds_1.calls (a0_0 : Bool) (a0_1 : Bool) (a0_2 : Bool) (a0_3 : Bool) (a0_4 : Bool) (r : Bool) (w : World) (h : cpu_holds_1.f a0_0 a0_1 a0_2 a0_3 a0_4 = some r) :
    Calls Tryd.prog 41 #[.agg #[.bool a0_0, .bool a0_1, .bool a0_2, .bool a0_3, .bool a0_4]] w fun e w' => e = .returned (.bool r) ∧ Below w.heap.size w w' := by
  have hu27 := Tryd.underlying27
  have HB := Aside0.mk (Below.refl w.heap.size w)
  have H : (some a0_3) = some r := h
  clear h
  obtain rfl := Option.some.inj H
  go_enter Tryd.func41, Tryd.ntmps41
  go_wp2_with (first | ((with_reducible refine gate_dst (N := 1) rfl ?_); refine box_event ?hg (N := 1) ?hd (cs := #[.bool a0_0, .bool a0_1, .bool a0_2, .bool a0_3, .bool a0_4]) (t := 27) ?hr ?_; (case hd => rfl); (case hg => rfl); (case hr => first | (go_simp; done) | (go_simp; rfl)); intro gb134 hg w2 hbox hb; have n0_ := Aside0.mk (below_step (by repeat (first | (with_reducible first | exact HB.out | apply bX_ | apply bW_ | apply bY_) | exact HB.out)) hb); have n1_ := Aside0.mk (hbox); have n2_ := Aside0.mk ((by rw [hg]; exact (below_size (by repeat (first | (with_reducible first | exact HB.out | apply bX_ | apply bW_ | apply bY_) | exact HB.out))) : w.heap.size ≤ gb134)); have n3_ := Aside0.mk ((by rw [hg]; exact (below_size (by repeat (first | (with_reducible first | exact HB.out | apply bX_ | apply bW_ | apply bY_) | exact HB.out))) : w.heap.size ≤ gb134)); clear HB; have HB := n0_; have BK134 := n1_; have GW134 := n2_; have GE134 := n3_; clear n0_ n1_ n2_ n3_; clear hb hbox hg; have hcz3_0 : w2.cell? ⟨gb134, 0, none⟩ = some (.bool a0_0) := (bC_ BK134.out 0).trans rfl; have hcz3_1 : w2.cell? ⟨gb134, 1, none⟩ = some (.bool a0_1) := (bC_ BK134.out 1).trans rfl; have hcz3_2 : w2.cell? ⟨gb134, 2, none⟩ = some (.bool a0_2) := (bC_ BK134.out 2).trans rfl; have hcz3_3 : w2.cell? ⟨gb134, 3, none⟩ = some (.bool a0_3) := (bC_ BK134.out 3).trans rfl; have hcz3_4 : w2.cell? ⟨gb134, 4, none⟩ = some (.bool a0_4) := (bC_ BK134.out 4).trans rfl; have hfz3_0 := bF_ BK134.out 0; have hfz3_1 := bF_ BK134.out 1; have hfz3_2 := bF_ BK134.out 2; have hfz3_3 := bF_ BK134.out 3; have hfz3_4 := bF_ BK134.out 4))
  go_ret
  exact ⟨by first | rfl | (simp [errW_none, errW_some] <;> rfl) | (simp [*, errW_none, errW_some] <;> rfl), by repeat (first | (with_reducible first | exact HB.out | apply bX_ | apply bW_ | apply bY_ | refine bS_ ?_ GE134.out) | exact HB.out)⟩
def cpu_holds_2.f (a0_0 : Bool) (a0_1 : Bool) (a0_2 : Bool) (a0_3 : Bool) (a0_4 : Bool) : Option (Bool) := some a0_0
set_option maxHeartbeats 8000000 in
set_option maxRecDepth 100000 in
theorem cpu_holds_2.calls (a0_0 : Bool) (a0_1 : Bool) (a0_2 : Bool) (a0_3 : Bool) (a0_4 : Bool) (r : Bool) (w : World) (h : cpu_holds_2.f a0_0 a0_1 a0_2 a0_3 a0_4 = some r) :
    Calls Tryd.prog 42 #[.agg #[.bool a0_0, .bool a0_1, .bool a0_2, .bool a0_3, .bool a0_4]] w fun e w' => e = .returned (.bool r) ∧ Below w.heap.size w w' := by
  have hu27 := Tryd.underlying27
  have HB := Aside0.mk (Below.refl w.heap.size w)
  have H : (some a0_0) = some r := h
  clear h
  obtain rfl := Option.some.inj H
  go_enter Tryd.func42, Tryd.ntmps42
  go_wp2_with (first | ((with_reducible refine gate_dst (N := 1) rfl ?_); refine box_event ?hg (N := 1) ?hd (cs := #[.bool a0_0, .bool a0_1, .bool a0_2, .bool a0_3, .bool a0_4]) (t := 27) ?hr ?_; (case hd => rfl); (case hg => rfl); (case hr => first | (go_simp; done) | (go_simp; rfl)); intro gb135 hg w2 hbox hb; have n0_ := Aside0.mk (below_step (by repeat (first | (with_reducible first | exact HB.out | apply bX_ | apply bW_ | apply bY_) | exact HB.out)) hb); have n1_ := Aside0.mk (hbox); have n2_ := Aside0.mk ((by rw [hg]; exact (below_size (by repeat (first | (with_reducible first | exact HB.out | apply bX_ | apply bW_ | apply bY_) | exact HB.out))) : w.heap.size ≤ gb135)); have n3_ := Aside0.mk ((by rw [hg]; exact (below_size (by repeat (first | (with_reducible first | exact HB.out | apply bX_ | apply bW_ | apply bY_) | exact HB.out))) : w.heap.size ≤ gb135)); clear HB; have HB := n0_; have BK135 := n1_; have GW135 := n2_; have GE135 := n3_; clear n0_ n1_ n2_ n3_; clear hb hbox hg; have hcz3_0 : w2.cell? ⟨gb135, 0, none⟩ = some (.bool a0_0) := (bC_ BK135.out 0).trans rfl; have hcz3_1 : w2.cell? ⟨gb135, 1, none⟩ = some (.bool a0_1) := (bC_ BK135.out 1).trans rfl; have hcz3_2 : w2.cell? ⟨gb135, 2, none⟩ = some (.bool a0_2) := (bC_ BK135.out 2).trans rfl; have hcz3_3 : w2.cell? ⟨gb135, 3, none⟩ = some (.bool a0_3) := (bC_ BK135.out 3).trans rfl; have hcz3_4 : w2.cell? ⟨gb135, 4, none⟩ = some (.bool a0_4) := (bC_ BK135.out 4).trans rfl; have hfz3_0 := bF_ BK135.out 0; have hfz3_1 := bF_ BK135.out 1; have hfz3_2 := bF_ BK135.out 2; have hfz3_3 := bF_ BK135.out 3; have hfz3_4 := bF_ BK135.out 4))
  go_ret
  exact ⟨by first | rfl | (simp [errW_none, errW_some] <;> rfl) | (simp [*, errW_none, errW_some] <;> rfl), by repeat (first | (with_reducible first | exact HB.out | apply bX_ | apply bW_ | apply bY_ | refine bS_ ?_ GE135.out) | exact HB.out)⟩
def cpu_holds_3.f (a0_0 : Bool) (a0_1 : Bool) (a0_2 : Bool) (a0_3 : Bool) (a0_4 : Bool) : Option (Bool) := some a0_1
set_option maxHeartbeats 8000000 in
set_option maxRecDepth 100000 in
theorem cpu_holds_3.calls (a0_0 : Bool) (a0_1 : Bool) (a0_2 : Bool) (a0_3 : Bool) (a0_4 : Bool) (r : Bool) (w : World) (h : cpu_holds_3.f a0_0 a0_1 a0_2 a0_3 a0_4 = some r) :
    Calls Tryd.prog 43 #[.agg #[.bool a0_0, .bool a0_1, .bool a0_2, .bool a0_3, .bool a0_4]] w fun e w' => e = .returned (.bool r) ∧ Below w.heap.size w w' := by
  have hu27 := Tryd.underlying27
  have HB := Aside0.mk (Below.refl w.heap.size w)
  have H : (some a0_1) = some r := h
  clear h
  obtain rfl := Option.some.inj H
  go_enter Tryd.func43, Tryd.ntmps43
  go_wp2_with (first | ((with_reducible refine gate_dst (N := 1) rfl ?_); refine box_event ?hg (N := 1) ?hd (cs := #[.bool a0_0, .bool a0_1, .bool a0_2, .bool a0_3, .bool a0_4]) (t := 27) ?hr ?_; (case hd => rfl); (case hg => rfl); (case hr => first | (go_simp; done) | (go_simp; rfl)); intro gb136 hg w2 hbox hb; have n0_ := Aside0.mk (below_step (by repeat (first | (with_reducible first | exact HB.out | apply bX_ | apply bW_ | apply bY_) | exact HB.out)) hb); have n1_ := Aside0.mk (hbox); have n2_ := Aside0.mk ((by rw [hg]; exact (below_size (by repeat (first | (with_reducible first | exact HB.out | apply bX_ | apply bW_ | apply bY_) | exact HB.out))) : w.heap.size ≤ gb136)); have n3_ := Aside0.mk ((by rw [hg]; exact (below_size (by repeat (first | (with_reducible first | exact HB.out | apply bX_ | apply bW_ | apply bY_) | exact HB.out))) : w.heap.size ≤ gb136)); clear HB; have HB := n0_; have BK136 := n1_; have GW136 := n2_; have GE136 := n3_; clear n0_ n1_ n2_ n3_; clear hb hbox hg; have hcz3_0 : w2.cell? ⟨gb136, 0, none⟩ = some (.bool a0_0) := (bC_ BK136.out 0).trans rfl; have hcz3_1 : w2.cell? ⟨gb136, 1, none⟩ = some (.bool a0_1) := (bC_ BK136.out 1).trans rfl; have hcz3_2 : w2.cell? ⟨gb136, 2, none⟩ = some (.bool a0_2) := (bC_ BK136.out 2).trans rfl; have hcz3_3 : w2.cell? ⟨gb136, 3, none⟩ = some (.bool a0_3) := (bC_ BK136.out 3).trans rfl; have hcz3_4 : w2.cell? ⟨gb136, 4, none⟩ = some (.bool a0_4) := (bC_ BK136.out 4).trans rfl; have hfz3_0 := bF_ BK136.out 0; have hfz3_1 := bF_ BK136.out 1; have hfz3_2 := bF_ BK136.out 2; have hfz3_3 := bF_ BK136.out 3; have hfz3_4 := bF_ BK136.out 4))
  go_ret
  exact ⟨by first | rfl | (simp [errW_none, errW_some] <;> rfl) | (simp [*, errW_none, errW_some] <;> rfl), by repeat (first | (with_reducible first | exact HB.out | apply bX_ | apply bW_ | apply bY_ | refine bS_ ?_ GE136.out) | exact HB.out)⟩
def cpu_holds_4.f (a0_0 : Bool) (a0_1 : Bool) (a0_2 : Bool) (a0_3 : Bool) (a0_4 : Bool) : Option (Bool) := if a0_0 = true then (some true) else (some a0_1)
set_option maxHeartbeats 8000000 in
set_option maxRecDepth 100000 in
theorem cpu_holds_4.calls (a0_0 : Bool) (a0_1 : Bool) (a0_2 : Bool) (a0_3 : Bool) (a0_4 : Bool) (r : Bool) (w : World) (h : cpu_holds_4.f a0_0 a0_1 a0_2 a0_3 a0_4 = some r) :
    Calls Tryd.prog 44 #[.agg #[.bool a0_0, .bool a0_1, .bool a0_2, .bool a0_3, .bool a0_4]] w fun e w' => e = .returned (.bool r) ∧ Below w.heap.size w w' := by
  have hu27 := Tryd.underlying27
  have HB := Aside0.mk (Below.refl w.heap.size w)
  have H : (if a0_0 = true then (some true) else (some a0_1)) = some r := h
  clear h
  by_cases c2 : a0_0 = true
  · subst c2
    have H1 : (some true) = some r := by rw [if_pos rfl] at H; exact H
    clear H
    have H := H1
    clear H1
    obtain rfl := Option.some.inj H
    go_enter Tryd.func44, Tryd.ntmps44
    go_wp2_with (first | ((with_reducible refine gate_dst (N := 1) rfl ?_); refine box_event ?hg (N := 1) ?hd (cs := #[.bool true, .bool a0_1, .bool a0_2, .bool a0_3, .bool a0_4]) (t := 27) ?hr ?_; (case hd => rfl); (case hg => rfl); (case hr => first | (go_simp; done) | (go_simp; rfl)); intro gb137 hg w3 hbox hb; have n0_ := Aside0.mk (below_step (by repeat (first | (with_reducible first | exact HB.out | apply bX_ | apply bW_ | apply bY_) | exact HB.out)) hb); have n1_ := Aside0.mk (hbox); have n2_ := Aside0.mk ((by rw [hg]; exact (below_size (by repeat (first | (with_reducible first | exact HB.out | apply bX_ | apply bW_ | apply bY_) | exact HB.out))) : w.heap.size ≤ gb137)); have n3_ := Aside0.mk ((by rw [hg]; exact (below_size (by repeat (first | (with_reducible first | exact HB.out | apply bX_ | apply bW_ | apply bY_) | exact HB.out))) : w.heap.size ≤ gb137)); clear HB; have HB := n0_; have BK137 := n1_; have GW137 := n2_; have GE137 := n3_; clear n0_ n1_ n2_ n3_; clear hb hbox hg; have hcz4_0 : w3.cell? ⟨gb137, 0, none⟩ = some (.bool true) := (bC_ BK137.out 0).trans rfl; have hcz4_1 : w3.cell? ⟨gb137, 1, none⟩ = some (.bool a0_1) := (bC_ BK137.out 1).trans rfl; have hcz4_2 : w3.cell? ⟨gb137, 2, none⟩ = some (.bool a0_2) := (bC_ BK137.out 2).trans rfl; have hcz4_3 : w3.cell? ⟨gb137, 3, none⟩ = some (.bool a0_3) := (bC_ BK137.out 3).trans rfl; have hcz4_4 : w3.cell? ⟨gb137, 4, none⟩ = some (.bool a0_4) := (bC_ BK137.out 4).trans rfl; have hfz4_0 := bF_ BK137.out 0; have hfz4_1 := bF_ BK137.out 1; have hfz4_2 := bF_ BK137.out 2; have hfz4_3 := bF_ BK137.out 3; have hfz4_4 := bF_ BK137.out 4))
    go_ret
    exact ⟨by first | rfl | (simp [errW_none, errW_some] <;> rfl) | (simp [*, errW_none, errW_some] <;> rfl), by repeat (first | (with_reducible first | exact HB.out | apply bX_ | apply bW_ | apply bY_ | refine bS_ ?_ GE137.out) | exact HB.out)⟩
  · replace c2 := Bool.eq_false_iff.mpr c2
    subst c2
    have H1 : (some a0_1) = some r := by rw [if_neg (show ¬ (false = true) by decide)] at H; exact H
    clear H
    have H := H1
    clear H1
    obtain rfl := Option.some.inj H
    go_enter Tryd.func44, Tryd.ntmps44
    go_wp2_with (first | ((with_reducible refine gate_dst (N := 1) rfl ?_); refine box_event ?hg (N := 1) ?hd (cs := #[.bool false, .bool a0_1, .bool a0_2, .bool a0_3, .bool a0_4]) (t := 27) ?hr ?_; (case hd => rfl); (case hg => rfl); (case hr => first | (go_simp; done) | (go_simp; rfl)); intro gb137 hg w5 hbox hb; have n0_ := Aside0.mk (below_step (by repeat (first | (with_reducible first | exact HB.out | apply bX_ | apply bW_ | apply bY_) | exact HB.out)) hb); have n1_ := Aside0.mk (hbox); have n2_ := Aside0.mk ((by rw [hg]; exact (below_size (by repeat (first | (with_reducible first | exact HB.out | apply bX_ | apply bW_ | apply bY_) | exact HB.out))) : w.heap.size ≤ gb137)); have n3_ := Aside0.mk ((by rw [hg]; exact (below_size (by repeat (first | (with_reducible first | exact HB.out | apply bX_ | apply bW_ | apply bY_) | exact HB.out))) : w.heap.size ≤ gb137)); clear HB; have HB := n0_; have BK137 := n1_; have GW137 := n2_; have GE137 := n3_; clear n0_ n1_ n2_ n3_; clear hb hbox hg; have hcz6_0 : w5.cell? ⟨gb137, 0, none⟩ = some (.bool false) := (bC_ BK137.out 0).trans rfl; have hcz6_1 : w5.cell? ⟨gb137, 1, none⟩ = some (.bool a0_1) := (bC_ BK137.out 1).trans rfl; have hcz6_2 : w5.cell? ⟨gb137, 2, none⟩ = some (.bool a0_2) := (bC_ BK137.out 2).trans rfl; have hcz6_3 : w5.cell? ⟨gb137, 3, none⟩ = some (.bool a0_3) := (bC_ BK137.out 3).trans rfl; have hcz6_4 : w5.cell? ⟨gb137, 4, none⟩ = some (.bool a0_4) := (bC_ BK137.out 4).trans rfl; have hfz6_0 := bF_ BK137.out 0; have hfz6_1 := bF_ BK137.out 1; have hfz6_2 := bF_ BK137.out 2; have hfz6_3 := bF_ BK137.out 3; have hfz6_4 := bF_ BK137.out 4))
    go_ret
    exact ⟨by first | rfl | (simp [errW_none, errW_some] <;> rfl) | (simp [*, errW_none, errW_some] <;> rfl), by repeat (first | (with_reducible first | exact HB.out | apply bX_ | apply bW_ | apply bY_ | refine bS_ ?_ GE137.out) | exact HB.out)⟩
def cpu_holds_5.f (a0_0 : Bool) (a0_1 : Bool) (a0_2 : Bool) (a0_3 : Bool) (a0_4 : Bool) : Option (Bool) := some a0_2
set_option maxHeartbeats 8000000 in
set_option maxRecDepth 100000 in
theorem cpu_holds_5.calls (a0_0 : Bool) (a0_1 : Bool) (a0_2 : Bool) (a0_3 : Bool) (a0_4 : Bool) (r : Bool) (w : World) (h : cpu_holds_5.f a0_0 a0_1 a0_2 a0_3 a0_4 = some r) :
    Calls Tryd.prog 45 #[.agg #[.bool a0_0, .bool a0_1, .bool a0_2, .bool a0_3, .bool a0_4]] w fun e w' => e = .returned (.bool r) ∧ Below w.heap.size w w' := by
  have hu27 := Tryd.underlying27
  have HB := Aside0.mk (Below.refl w.heap.size w)
  have H : (some a0_2) = some r := h
  clear h
  obtain rfl := Option.some.inj H
  go_enter Tryd.func45, Tryd.ntmps45
  go_wp2_with (first | ((with_reducible refine gate_dst (N := 1) rfl ?_); refine box_event ?hg (N := 1) ?hd (cs := #[.bool a0_0, .bool a0_1, .bool a0_2, .bool a0_3, .bool a0_4]) (t := 27) ?hr ?_; (case hd => rfl); (case hg => rfl); (case hr => first | (go_simp; done) | (go_simp; rfl)); intro gb138 hg w2 hbox hb; have n0_ := Aside0.mk (below_step (by repeat (first | (with_reducible first | exact HB.out | apply bX_ | apply bW_ | apply bY_) | exact HB.out)) hb); have n1_ := Aside0.mk (hbox); have n2_ := Aside0.mk ((by rw [hg]; exact (below_size (by repeat (first | (with_reducible first | exact HB.out | apply bX_ | apply bW_ | apply bY_) | exact HB.out))) : w.heap.size ≤ gb138)); have n3_ := Aside0.mk ((by rw [hg]; exact (below_size (by repeat (first | (with_reducible first | exact HB.out | apply bX_ | apply bW_ | apply bY_) | exact HB.out))) : w.heap.size ≤ gb138)); clear HB; have HB := n0_; have BK138 := n1_; have GW138 := n2_; have GE138 := n3_; clear n0_ n1_ n2_ n3_; clear hb hbox hg; have hcz3_0 : w2.cell? ⟨gb138, 0, none⟩ = some (.bool a0_0) := (bC_ BK138.out 0).trans rfl; have hcz3_1 : w2.cell? ⟨gb138, 1, none⟩ = some (.bool a0_1) := (bC_ BK138.out 1).trans rfl; have hcz3_2 : w2.cell? ⟨gb138, 2, none⟩ = some (.bool a0_2) := (bC_ BK138.out 2).trans rfl; have hcz3_3 : w2.cell? ⟨gb138, 3, none⟩ = some (.bool a0_3) := (bC_ BK138.out 3).trans rfl; have hcz3_4 : w2.cell? ⟨gb138, 4, none⟩ = some (.bool a0_4) := (bC_ BK138.out 4).trans rfl; have hfz3_0 := bF_ BK138.out 0; have hfz3_1 := bF_ BK138.out 1; have hfz3_2 := bF_ BK138.out 2; have hfz3_3 := bF_ BK138.out 3; have hfz3_4 := bF_ BK138.out 4))
  go_ret
  exact ⟨by first | rfl | (simp [errW_none, errW_some] <;> rfl) | (simp [*, errW_none, errW_some] <;> rfl), by repeat (first | (with_reducible first | exact HB.out | apply bX_ | apply bW_ | apply bY_ | refine bS_ ?_ GE138.out) | exact HB.out)⟩
def cpu_holds_6.f (a0_0 : Bool) (a0_1 : Bool) (a0_2 : Bool) (a0_3 : Bool) (a0_4 : Bool) : Option (Bool) := some a0_4
set_option maxHeartbeats 8000000 in
set_option maxRecDepth 100000 in
theorem cpu_holds_6.calls (a0_0 : Bool) (a0_1 : Bool) (a0_2 : Bool) (a0_3 : Bool) (a0_4 : Bool) (r : Bool) (w : World) (h : cpu_holds_6.f a0_0 a0_1 a0_2 a0_3 a0_4 = some r) :
    Calls Tryd.prog 46 #[.agg #[.bool a0_0, .bool a0_1, .bool a0_2, .bool a0_3, .bool a0_4]] w fun e w' => e = .returned (.bool r) ∧ Below w.heap.size w w' := by
  have hu27 := Tryd.underlying27
  have HB := Aside0.mk (Below.refl w.heap.size w)
  have H : (some a0_4) = some r := h
  clear h
  obtain rfl := Option.some.inj H
  go_enter Tryd.func46, Tryd.ntmps46
  go_wp2_with (first | ((with_reducible refine gate_dst (N := 1) rfl ?_); refine box_event ?hg (N := 1) ?hd (cs := #[.bool a0_0, .bool a0_1, .bool a0_2, .bool a0_3, .bool a0_4]) (t := 27) ?hr ?_; (case hd => rfl); (case hg => rfl); (case hr => first | (go_simp; done) | (go_simp; rfl)); intro gb139 hg w2 hbox hb; have n0_ := Aside0.mk (below_step (by repeat (first | (with_reducible first | exact HB.out | apply bX_ | apply bW_ | apply bY_) | exact HB.out)) hb); have n1_ := Aside0.mk (hbox); have n2_ := Aside0.mk ((by rw [hg]; exact (below_size (by repeat (first | (with_reducible first | exact HB.out | apply bX_ | apply bW_ | apply bY_) | exact HB.out))) : w.heap.size ≤ gb139)); have n3_ := Aside0.mk ((by rw [hg]; exact (below_size (by repeat (first | (with_reducible first | exact HB.out | apply bX_ | apply bW_ | apply bY_) | exact HB.out))) : w.heap.size ≤ gb139)); clear HB; have HB := n0_; have BK139 := n1_; have GW139 := n2_; have GE139 := n3_; clear n0_ n1_ n2_ n3_; clear hb hbox hg; have hcz3_0 : w2.cell? ⟨gb139, 0, none⟩ = some (.bool a0_0) := (bC_ BK139.out 0).trans rfl; have hcz3_1 : w2.cell? ⟨gb139, 1, none⟩ = some (.bool a0_1) := (bC_ BK139.out 1).trans rfl; have hcz3_2 : w2.cell? ⟨gb139, 2, none⟩ = some (.bool a0_2) := (bC_ BK139.out 2).trans rfl; have hcz3_3 : w2.cell? ⟨gb139, 3, none⟩ = some (.bool a0_3) := (bC_ BK139.out 3).trans rfl; have hcz3_4 : w2.cell? ⟨gb139, 4, none⟩ = some (.bool a0_4) := (bC_ BK139.out 4).trans rfl; have hfz3_0 := bF_ BK139.out 0; have hfz3_1 := bF_ BK139.out 1; have hfz3_2 := bF_ BK139.out 2; have hfz3_3 := bF_ BK139.out 3; have hfz3_4 := bF_ BK139.out 4))
  go_ret
  exact ⟨by first | rfl | (simp [errW_none, errW_some] <;> rfl) | (simp [*, errW_none, errW_some] <;> rfl), by repeat (first | (with_reducible first | exact HB.out | apply bX_ | apply bW_ | apply bY_ | refine bS_ ?_ GE139.out) | exact HB.out)⟩
def cpu_holds_7.f (a0_0 : Bool) (a0_1 : Bool) (a0_2 : Bool) (a0_3 : Bool) (a0_4 : Bool) : Option (Bool) := some (a0_2 != a0_3)
set_option maxHeartbeats 8000000 in
set_option maxRecDepth 100000 in
theorem cpu_holds_7.calls (a0_0 : Bool) (a0_1 : Bool) (a0_2 : Bool) (a0_3 : Bool) (a0_4 : Bool) (r : Bool) (w : World) (h : cpu_holds_7.f a0_0 a0_1 a0_2 a0_3 a0_4 = some r) :
    Calls Tryd.prog 47 #[.agg #[.bool a0_0, .bool a0_1, .bool a0_2, .bool a0_3, .bool a0_4]] w fun e w' => e = .returned (.bool r) ∧ Below w.heap.size w w' := by
  have hu27 := Tryd.underlying27
  have HB := Aside0.mk (Below.refl w.heap.size w)
  have H : (some (a0_2 != a0_3)) = some r := h
  clear h
  obtain rfl := Option.some.inj H
  go_enter Tryd.func47, Tryd.ntmps47
  go_wp2_with (first | ((with_reducible refine gate_dst (N := 1) rfl ?_); refine box_event ?hg (N := 1) ?hd (cs := #[.bool a0_0, .bool a0_1, .bool a0_2, .bool a0_3, .bool a0_4]) (t := 27) ?hr ?_; (case hd => rfl); (case hg => rfl); (case hr => first | (go_simp; done) | (go_simp; rfl)); intro gb140 hg w2 hbox hb; have n0_ := Aside0.mk (below_step (by repeat (first | (with_reducible first | exact HB.out | apply bX_ | apply bW_ | apply bY_) | exact HB.out)) hb); have n1_ := Aside0.mk (hbox); have n2_ := Aside0.mk ((by rw [hg]; exact (below_size (by repeat (first | (with_reducible first | exact HB.out | apply bX_ | apply bW_ | apply bY_) | exact HB.out))) : w.heap.size ≤ gb140)); have n3_ := Aside0.mk ((by rw [hg]; exact (below_size (by repeat (first | (with_reducible first | exact HB.out | apply bX_ | apply bW_ | apply bY_) | exact HB.out))) : w.heap.size ≤ gb140)); clear HB; have HB := n0_; have BK140 := n1_; have GW140 := n2_; have GE140 := n3_; clear n0_ n1_ n2_ n3_; clear hb hbox hg; have hcz3_0 : w2.cell? ⟨gb140, 0, none⟩ = some (.bool a0_0) := (bC_ BK140.out 0).trans rfl; have hcz3_1 : w2.cell? ⟨gb140, 1, none⟩ = some (.bool a0_1) := (bC_ BK140.out 1).trans rfl; have hcz3_2 : w2.cell? ⟨gb140, 2, none⟩ = some (.bool a0_2) := (bC_ BK140.out 2).trans rfl; have hcz3_3 : w2.cell? ⟨gb140, 3, none⟩ = some (.bool a0_3) := (bC_ BK140.out 3).trans rfl; have hcz3_4 : w2.cell? ⟨gb140, 4, none⟩ = some (.bool a0_4) := (bC_ BK140.out 4).trans rfl; have hfz3_0 := bF_ BK140.out 0; have hfz3_1 := bF_ BK140.out 1; have hfz3_2 := bF_ BK140.out 2; have hfz3_3 := bF_ BK140.out 3; have hfz3_4 := bF_ BK140.out 4))
  go_ret
  exact ⟨by first | rfl | (simp [errW_none, errW_some] <;> rfl) | (simp [*, errW_none, errW_some] <;> rfl), by repeat (first | (with_reducible first | exact HB.out | apply bX_ | apply bW_ | apply bY_ | refine bS_ ?_ GE140.out) | exact HB.out)⟩
def cpu_holds_8.f (a0_0 : Bool) (a0_1 : Bool) (a0_2 : Bool) (a0_3 : Bool) (a0_4 : Bool) : Option (Bool) := if a0_1 = true then (some true) else (some (a0_2 != a0_3))
set_option maxHeartbeats 8000000 in
set_option maxRecDepth 100000 in
theorem cpu_holds_8.calls (a0_0 : Bool) (a0_1 : Bool) (a0_2 : Bool) (a0_3 : Bool) (a0_4 : Bool) (r : Bool) (w : World) (h : cpu_holds_8.f a0_0 a0_1 a0_2 a0_3 a0_4 = some r) :
    Calls Tryd.prog 48 #[.agg #[.bool a0_0, .bool a0_1, .bool a0_2, .bool a0_3, .bool a0_4]] w fun e w' => e = .returned (.bool r) ∧ Below w.heap.size w w' := by
  have hu27 := Tryd.underlying27
  have HB := Aside0.mk (Below.refl w.heap.size w)
  have H : (if a0_1 = true then (some true) else (some (a0_2 != a0_3))) = some r := h
  clear h
  by_cases c2 : a0_1 = true
  · subst c2
    have H1 : (some true) = some r := by rw [if_pos rfl] at H; exact H
    clear H
    have H := H1
    clear H1
    obtain rfl := Option.some.inj H
    go_enter Tryd.func48, Tryd.ntmps48
    go_wp2_with (first | ((with_reducible refine gate_dst (N := 1) rfl ?_); refine box_event ?hg (N := 1) ?hd (cs := #[.bool a0_0, .bool true, .bool a0_2, .bool a0_3, .bool a0_4]) (t := 27) ?hr ?_; (case hd => rfl); (case hg => rfl); (case hr => first | (go_simp; done) | (go_simp; rfl)); intro gb141 hg w3 hbox hb; have n0_ := Aside0.mk (below_step (by repeat (first | (with_reducible first | exact HB.out | apply bX_ | apply bW_ | apply bY_) | exact HB.out)) hb); have n1_ := Aside0.mk (hbox); have n2_ := Aside0.mk ((by rw [hg]; exact (below_size (by repeat (first | (with_reducible first | exact HB.out | apply bX_ | apply bW_ | apply bY_) | exact HB.out))) : w.heap.size ≤ gb141)); have n3_ := Aside0.mk ((by rw [hg]; exact (below_size (by repeat (first | (with_reducible first | exact HB.out | apply bX_ | apply bW_ | apply bY_) | exact HB.out))) : w.heap.size ≤ gb141)); clear HB; have HB := n0_; have BK141 := n1_; have GW141 := n2_; have GE141 := n3_; clear n0_ n1_ n2_ n3_; clear hb hbox hg; have hcz4_0 : w3.cell? ⟨gb141, 0, none⟩ = some (.bool a0_0) := (bC_ BK141.out 0).trans rfl; have hcz4_1 : w3.cell? ⟨gb141, 1, none⟩ = some (.bool true) := (bC_ BK141.out 1).trans rfl; have hcz4_2 : w3.cell? ⟨gb141, 2, none⟩ = some (.bool a0_2) := (bC_ BK141.out 2).trans rfl; have hcz4_3 : w3.cell? ⟨gb141, 3, none⟩ = some (.bool a0_3) := (bC_ BK141.out 3).trans rfl; have hcz4_4 : w3.cell? ⟨gb141, 4, none⟩ = some (.bool a0_4) := (bC_ BK141.out 4).trans rfl; have hfz4_0 := bF_ BK141.out 0; have hfz4_1 := bF_ BK141.out 1; have hfz4_2 := bF_ BK141.out 2; have hfz4_3 := bF_ BK141.out 3; have hfz4_4 := bF_ BK141.out 4))
    go_ret
    exact ⟨by first | rfl | (simp [errW_none, errW_some] <;> rfl) | (simp [*, errW_none, errW_some] <;> rfl), by repeat (first | (with_reducible first | exact HB.out | apply bX_ | apply bW_ | apply bY_ | refine bS_ ?_ GE141.out) | exact HB.out)⟩
  · replace c2 := Bool.eq_false_iff.mpr c2
    subst c2
    have H1 : (some (a0_2 != a0_3)) = some r := by rw [if_neg (show ¬ (false = true) by decide)] at H; exact H
    clear H
    have H := H1
    clear H1
    obtain rfl := Option.some.inj H
    go_enter Tryd.func48, Tryd.ntmps48
    go_wp2_with (first | ((with_reducible refine gate_dst (N := 1) rfl ?_); refine box_event ?hg (N := 1) ?hd (cs := #[.bool a0_0, .bool false, .bool a0_2, .bool a0_3, .bool a0_4]) (t := 27) ?hr ?_; (case hd => rfl); (case hg => rfl); (case hr => first | (go_simp; done) | (go_simp; rfl)); intro gb141 hg w5 hbox hb; have n0_ := Aside0.mk (below_step (by repeat (first | (with_reducible first | exact HB.out | apply bX_ | apply bW_ | apply bY_) | exact HB.out)) hb); have n1_ := Aside0.mk (hbox); have n2_ := Aside0.mk ((by rw [hg]; exact (below_size (by repeat (first | (with_reducible first | exact HB.out | apply bX_ | apply bW_ | apply bY_) | exact HB.out))) : w.heap.size ≤ gb141)); have n3_ := Aside0.mk ((by rw [hg]; exact (below_size (by repeat (first | (with_reducible first | exact HB.out | apply bX_ | apply bW_ | apply bY_) | exact HB.out))) : w.heap.size ≤ gb141)); clear HB; have HB := n0_; have BK141 := n1_; have GW141 := n2_; have GE141 := n3_; clear n0_ n1_ n2_ n3_; clear hb hbox hg; have hcz6_0 : w5.cell? ⟨gb141, 0, none⟩ = some (.bool a0_0) := (bC_ BK141.out 0).trans rfl; have hcz6_1 : w5.cell? ⟨gb141, 1, none⟩ = some (.bool false) := (bC_ BK141.out 1).trans rfl; have hcz6_2 : w5.cell? ⟨gb141, 2, none⟩ = some (.bool a0_2) := (bC_ BK141.out 2).trans rfl; have hcz6_3 : w5.cell? ⟨gb141, 3, none⟩ = some (.bool a0_3) := (bC_ BK141.out 3).trans rfl; have hcz6_4 : w5.cell? ⟨gb141, 4, none⟩ = some (.bool a0_4) := (bC_ BK141.out 4).trans rfl; have hfz6_0 := bF_ BK141.out 0; have hfz6_1 := bF_ BK141.out 1; have hfz6_2 := bF_ BK141.out 2; have hfz6_3 := bF_ BK141.out 3; have hfz6_4 := bF_ BK141.out 4))
    go_ret
    exact ⟨by first | rfl | (simp [errW_none, errW_some] <;> rfl) | (simp [*, errW_none, errW_some] <;> rfl), by repeat (first | (with_reducible first | exact HB.out | apply bX_ | apply bW_ | apply bY_ | refine bS_ ?_ GE141.out) | exact HB.out)⟩
end Go.Proofs.YtpmclnlgipphmaaDoor.B
namespace Go.Proofs.YtpmclnlgipphmaaDoor.B
open Go.RowKit Go.Proofs.YtpmclnlgipphmaaDoorW.PrintWords Go.Proofs.YtpmclnlgipphmaaDoorW.PrintMore Go.RF
set_option linter.unusedVariables false
set_option linter.unusedSimpArgs false
attribute [local go_sem] Oper.semAt_some
def Tab (w : World) : Prop := w.cell? ⟨0, 0, none⟩ = some (.func (.func 41) #[] #[]) ∧ w.cell? ⟨0, 1, none⟩ = some (.func (.func 42) #[] #[]) ∧ w.cell? ⟨0, 2, none⟩ = some (.func (.func 43) #[] #[]) ∧ w.cell? ⟨0, 3, none⟩ = some (.func (.func 44) #[] #[]) ∧ w.cell? ⟨0, 4, none⟩ = some (.func (.func 45) #[] #[]) ∧ w.cell? ⟨0, 5, none⟩ = some (.func (.func 46) #[] #[]) ∧ w.cell? ⟨0, 6, none⟩ = some (.func (.func 47) #[] #[]) ∧ w.cell? ⟨0, 7, none⟩ = some (.func (.func 48) #[] #[])
theorem Tab.lt {w : World} (h : Tab w) : 0 < w.heap.size := by
  have h1 := h.1
  unfold World.cell? at h1
  by_cases hs : 0 < w.heap.size
  · exact hs
  · have e : w.heap[0]? = none := Array.getElem?_eq_none (by omega)
    simp [e] at h1
theorem Tab.keeps {S : Nat → Prop} {W W1 : World} (h : Tab W) (k : Keeps S W W1) (hS : ¬ S 0) : Tab W1 :=
  ⟨k.cell h.1 hS, k.cell h.2.1 hS, k.cell h.2.2.1 hS, k.cell h.2.2.2.1 hS, k.cell h.2.2.2.2.1 hS, k.cell h.2.2.2.2.2.1 hS, k.cell h.2.2.2.2.2.2.1 hS, k.cell h.2.2.2.2.2.2.2 hS⟩
theorem Tab.below {W W1 : World} (h : Tab W) (k : Below W.heap.size W W1) : Tab W1 := h.keeps (Keeps.of_below (S := fun j => ¬ j < W.heap.size) k (fun j _ h => Classical.not_not.1 h)) (fun hn => hn h.lt)
def holdsF (i : Nat) (C Z S O P : Bool) : Bool := if i = 0 then O else if i = 1 then C else if i = 2 then Z else if i = 3 then (C || Z) else if i = 4 then S else if i = 5 then P else if i = 6 then (S != O) else (Z || (S != O))
theorem holds_calls (i : Nat) (hi : i < 8) (C Z S O P : Bool) (w : World) : Calls Tryd.prog (41 + i) #[.agg #[.bool C, .bool Z, .bool S, .bool O, .bool P]] w fun e w' => e = .returned (.bool (holdsF i C Z S O P)) ∧ Below w.heap.size w w' := by
  have h : i = 0 ∨ i = 1 ∨ i = 2 ∨ i = 3 ∨ i = 4 ∨ i = 5 ∨ i = 6 ∨ i = 7 := by omega
  rcases h with rfl | rfl | rfl | rfl | rfl | rfl | rfl | rfl
  · exact cpu_holds_1.calls C Z S O P _ w rfl
  · exact cpu_holds_2.calls C Z S O P _ w rfl
  · exact cpu_holds_3.calls C Z S O P _ w rfl
  · exact cpu_holds_4.calls C Z S O P _ w (by unfold cpu_holds_4.f; cases C <;> rfl)
  · exact cpu_holds_5.calls C Z S O P _ w rfl
  · exact cpu_holds_6.calls C Z S O P _ w rfl
  · exact cpu_holds_7.calls C Z S O P _ w rfl
  · exact cpu_holds_8.calls C Z S O P _ w (by unfold cpu_holds_8.f; cases Z <;> rfl)
set_option maxHeartbeats 8000000 in
set_option maxRecDepth 100000 in
theorem cond_0 (C Z S O P : Bool) (cond q : Int) (w : World) (hT : Tab w) (h7 : Go.bits .and .u8 (cond / 2) 7 = 0) (h1 : Go.bits .and .u8 cond 1 = q) :
    Calls Tryd.prog 12 #[.agg #[.bool C, .bool Z, .bool S, .bool O, .bool P], .int .u8 cond] w fun e w' => e = .returned (.bool (holdsF 0 C Z S O P != (q == 1))) ∧ Below w.heap.size w w' := by
  have hu27 := Tryd.underlying27
  have HT := Aside0.mk hT
  have hlt := hT.lt
  clear hT
  go_enter Tryd.func12, Tryd.ntmps12
  go_upto_region 1 with (fail)
  have b0 := World.alloc_heap_new w (.cells #[.bool C, .bool Z, .bool S, .bool O, .bool P] 27)
  have hbl : Below w.heap.size w (w.alloc (.cells #[.bool C, .bool Z, .bool S, .bool O, .bool P] 27)) := bX_ (Below.refl _ _) _
  have B0 := Aside0.mk b0
  have HB := Aside0.mk hbl
  have HT1 := Aside0.mk (HT.out.below hbl)
  clear b0 hbl
  generalize w.alloc (.cells #[.bool C, .bool Z, .bool S, .bool O, .bool P] 27) = w1 at *
  obtain ⟨⟨q0, q1, q2, q3, q4⟩, -⟩ := rows5 B0.out
  have t0 : w1.cell? ⟨0, 0, none⟩ = some (.func (.func 41) #[] #[]) := HT1.out.1
  have hl1 : w.heap.size < w1.heap.size := blk_lt B0.out
  go_region_held3 (fun w' => w'.cell? ⟨0, 0, none⟩ = some (.func (.func 41) #[] #[]) ∧ w'.cell? ⟨w.heap.size, 0, none⟩ = some (.bool C) ∧ w'.cell? ⟨w.heap.size, 1, none⟩ = some (.bool Z) ∧ w'.cell? ⟨w.heap.size, 2, none⟩ = some (.bool S) ∧ w'.cell? ⟨w.heap.size, 3, none⟩ = some (.bool O) ∧ w'.cell? ⟨w.heap.size, 4, none⟩ = some (.bool P)) (first | go_keep | (simp [*]; done) | (refine ⟨?_, ?_, ?_, ?_, ?_, ?_⟩ <;> (refine (hb3.cell (p := ⟨_, _, none⟩) ?_).trans ?_ <;> first | assumption | (show 0 < w1.heap.size; omega) | (show w.heap.size < w1.heap.size; omega)))) (first | (go_at_call 41; refine (holds_calls 0 (by decide) C Z S O P _).mono ?_; rintro e w3 ⟨rfl, hb3⟩))
  all_goals have HB3 := Aside0.mk hb3
  all_goals clear hb3
  all_goals go_wp2_with fail
  all_goals go_ret
  all_goals exact ⟨rfl, (HB.out.trans (show Below w.heap.size w1 w1.drew from ⟨rfl, rfl, rfl, Nat.le_refl _, fun _ _ => rfl⟩)).trans (HB3.out.mono (show w.heap.size ≤ w1.heap.size by omega))⟩
set_option maxHeartbeats 8000000 in
set_option maxRecDepth 100000 in
theorem cond_1 (C Z S O P : Bool) (cond q : Int) (w : World) (hT : Tab w) (h7 : Go.bits .and .u8 (cond / 2) 7 = 1) (h1 : Go.bits .and .u8 cond 1 = q) :
    Calls Tryd.prog 12 #[.agg #[.bool C, .bool Z, .bool S, .bool O, .bool P], .int .u8 cond] w fun e w' => e = .returned (.bool (holdsF 1 C Z S O P != (q == 1))) ∧ Below w.heap.size w w' := by
  have hu27 := Tryd.underlying27
  have HT := Aside0.mk hT
  have hlt := hT.lt
  clear hT
  go_enter Tryd.func12, Tryd.ntmps12
  go_upto_region 1 with (fail)
  have b0 := World.alloc_heap_new w (.cells #[.bool C, .bool Z, .bool S, .bool O, .bool P] 27)
  have hbl : Below w.heap.size w (w.alloc (.cells #[.bool C, .bool Z, .bool S, .bool O, .bool P] 27)) := bX_ (Below.refl _ _) _
  have B0 := Aside0.mk b0
  have HB := Aside0.mk hbl
  have HT1 := Aside0.mk (HT.out.below hbl)
  clear b0 hbl
  generalize w.alloc (.cells #[.bool C, .bool Z, .bool S, .bool O, .bool P] 27) = w1 at *
  obtain ⟨⟨q0, q1, q2, q3, q4⟩, -⟩ := rows5 B0.out
  have t0 : w1.cell? ⟨0, 1, none⟩ = some (.func (.func 42) #[] #[]) := HT1.out.2.1
  have hl1 : w.heap.size < w1.heap.size := blk_lt B0.out
  go_region_held3 (fun w' => w'.cell? ⟨0, 1, none⟩ = some (.func (.func 42) #[] #[]) ∧ w'.cell? ⟨w.heap.size, 0, none⟩ = some (.bool C) ∧ w'.cell? ⟨w.heap.size, 1, none⟩ = some (.bool Z) ∧ w'.cell? ⟨w.heap.size, 2, none⟩ = some (.bool S) ∧ w'.cell? ⟨w.heap.size, 3, none⟩ = some (.bool O) ∧ w'.cell? ⟨w.heap.size, 4, none⟩ = some (.bool P)) (first | go_keep | (simp [*]; done) | (refine ⟨?_, ?_, ?_, ?_, ?_, ?_⟩ <;> (refine (hb3.cell (p := ⟨_, _, none⟩) ?_).trans ?_ <;> first | assumption | (show 0 < w1.heap.size; omega) | (show w.heap.size < w1.heap.size; omega)))) (first | (go_at_call 42; refine (holds_calls 1 (by decide) C Z S O P _).mono ?_; rintro e w3 ⟨rfl, hb3⟩))
  all_goals have HB3 := Aside0.mk hb3
  all_goals clear hb3
  all_goals go_wp2_with fail
  all_goals go_ret
  all_goals exact ⟨rfl, (HB.out.trans (show Below w.heap.size w1 w1.drew from ⟨rfl, rfl, rfl, Nat.le_refl _, fun _ _ => rfl⟩)).trans (HB3.out.mono (show w.heap.size ≤ w1.heap.size by omega))⟩
set_option maxHeartbeats 8000000 in
set_option maxRecDepth 100000 in
theorem cond_2 (C Z S O P : Bool) (cond q : Int) (w : World) (hT : Tab w) (h7 : Go.bits .and .u8 (cond / 2) 7 = 2) (h1 : Go.bits .and .u8 cond 1 = q) :
    Calls Tryd.prog 12 #[.agg #[.bool C, .bool Z, .bool S, .bool O, .bool P], .int .u8 cond] w fun e w' => e = .returned (.bool (holdsF 2 C Z S O P != (q == 1))) ∧ Below w.heap.size w w' := by
  have hu27 := Tryd.underlying27
  have HT := Aside0.mk hT
  have hlt := hT.lt
  clear hT
  go_enter Tryd.func12, Tryd.ntmps12
  go_upto_region 1 with (fail)
  have b0 := World.alloc_heap_new w (.cells #[.bool C, .bool Z, .bool S, .bool O, .bool P] 27)
  have hbl : Below w.heap.size w (w.alloc (.cells #[.bool C, .bool Z, .bool S, .bool O, .bool P] 27)) := bX_ (Below.refl _ _) _
  have B0 := Aside0.mk b0
  have HB := Aside0.mk hbl
  have HT1 := Aside0.mk (HT.out.below hbl)
  clear b0 hbl
  generalize w.alloc (.cells #[.bool C, .bool Z, .bool S, .bool O, .bool P] 27) = w1 at *
  obtain ⟨⟨q0, q1, q2, q3, q4⟩, -⟩ := rows5 B0.out
  have t0 : w1.cell? ⟨0, 2, none⟩ = some (.func (.func 43) #[] #[]) := HT1.out.2.2.1
  have hl1 : w.heap.size < w1.heap.size := blk_lt B0.out
  go_region_held3 (fun w' => w'.cell? ⟨0, 2, none⟩ = some (.func (.func 43) #[] #[]) ∧ w'.cell? ⟨w.heap.size, 0, none⟩ = some (.bool C) ∧ w'.cell? ⟨w.heap.size, 1, none⟩ = some (.bool Z) ∧ w'.cell? ⟨w.heap.size, 2, none⟩ = some (.bool S) ∧ w'.cell? ⟨w.heap.size, 3, none⟩ = some (.bool O) ∧ w'.cell? ⟨w.heap.size, 4, none⟩ = some (.bool P)) (first | go_keep | (simp [*]; done) | (refine ⟨?_, ?_, ?_, ?_, ?_, ?_⟩ <;> (refine (hb3.cell (p := ⟨_, _, none⟩) ?_).trans ?_ <;> first | assumption | (show 0 < w1.heap.size; omega) | (show w.heap.size < w1.heap.size; omega)))) (first | (go_at_call 43; refine (holds_calls 2 (by decide) C Z S O P _).mono ?_; rintro e w3 ⟨rfl, hb3⟩))
  all_goals have HB3 := Aside0.mk hb3
  all_goals clear hb3
  all_goals go_wp2_with fail
  all_goals go_ret
  all_goals exact ⟨rfl, (HB.out.trans (show Below w.heap.size w1 w1.drew from ⟨rfl, rfl, rfl, Nat.le_refl _, fun _ _ => rfl⟩)).trans (HB3.out.mono (show w.heap.size ≤ w1.heap.size by omega))⟩
set_option maxHeartbeats 8000000 in
set_option maxRecDepth 100000 in
theorem cond_3 (C Z S O P : Bool) (cond q : Int) (w : World) (hT : Tab w) (h7 : Go.bits .and .u8 (cond / 2) 7 = 3) (h1 : Go.bits .and .u8 cond 1 = q) :
    Calls Tryd.prog 12 #[.agg #[.bool C, .bool Z, .bool S, .bool O, .bool P], .int .u8 cond] w fun e w' => e = .returned (.bool (holdsF 3 C Z S O P != (q == 1))) ∧ Below w.heap.size w w' := by
  have hu27 := Tryd.underlying27
  have HT := Aside0.mk hT
  have hlt := hT.lt
  clear hT
  go_enter Tryd.func12, Tryd.ntmps12
  go_upto_region 1 with (fail)
  have b0 := World.alloc_heap_new w (.cells #[.bool C, .bool Z, .bool S, .bool O, .bool P] 27)
  have hbl : Below w.heap.size w (w.alloc (.cells #[.bool C, .bool Z, .bool S, .bool O, .bool P] 27)) := bX_ (Below.refl _ _) _
  have B0 := Aside0.mk b0
  have HB := Aside0.mk hbl
  have HT1 := Aside0.mk (HT.out.below hbl)
  clear b0 hbl
  generalize w.alloc (.cells #[.bool C, .bool Z, .bool S, .bool O, .bool P] 27) = w1 at *
  obtain ⟨⟨q0, q1, q2, q3, q4⟩, -⟩ := rows5 B0.out
  have t0 : w1.cell? ⟨0, 3, none⟩ = some (.func (.func 44) #[] #[]) := HT1.out.2.2.2.1
  have hl1 : w.heap.size < w1.heap.size := blk_lt B0.out
  go_region_held3 (fun w' => w'.cell? ⟨0, 3, none⟩ = some (.func (.func 44) #[] #[]) ∧ w'.cell? ⟨w.heap.size, 0, none⟩ = some (.bool C) ∧ w'.cell? ⟨w.heap.size, 1, none⟩ = some (.bool Z) ∧ w'.cell? ⟨w.heap.size, 2, none⟩ = some (.bool S) ∧ w'.cell? ⟨w.heap.size, 3, none⟩ = some (.bool O) ∧ w'.cell? ⟨w.heap.size, 4, none⟩ = some (.bool P)) (first | go_keep | (simp [*]; done) | (refine ⟨?_, ?_, ?_, ?_, ?_, ?_⟩ <;> (refine (hb3.cell (p := ⟨_, _, none⟩) ?_).trans ?_ <;> first | assumption | (show 0 < w1.heap.size; omega) | (show w.heap.size < w1.heap.size; omega)))) (first | (go_at_call 44; refine (holds_calls 3 (by decide) C Z S O P _).mono ?_; rintro e w3 ⟨rfl, hb3⟩))
  all_goals have HB3 := Aside0.mk hb3
  all_goals clear hb3
  all_goals go_wp2_with fail
  all_goals go_ret
  all_goals exact ⟨rfl, (HB.out.trans (show Below w.heap.size w1 w1.drew from ⟨rfl, rfl, rfl, Nat.le_refl _, fun _ _ => rfl⟩)).trans (HB3.out.mono (show w.heap.size ≤ w1.heap.size by omega))⟩
set_option maxHeartbeats 8000000 in
set_option maxRecDepth 100000 in
theorem cond_4 (C Z S O P : Bool) (cond q : Int) (w : World) (hT : Tab w) (h7 : Go.bits .and .u8 (cond / 2) 7 = 4) (h1 : Go.bits .and .u8 cond 1 = q) :
    Calls Tryd.prog 12 #[.agg #[.bool C, .bool Z, .bool S, .bool O, .bool P], .int .u8 cond] w fun e w' => e = .returned (.bool (holdsF 4 C Z S O P != (q == 1))) ∧ Below w.heap.size w w' := by
  have hu27 := Tryd.underlying27
  have HT := Aside0.mk hT
  have hlt := hT.lt
  clear hT
  go_enter Tryd.func12, Tryd.ntmps12
  go_upto_region 1 with (fail)
  have b0 := World.alloc_heap_new w (.cells #[.bool C, .bool Z, .bool S, .bool O, .bool P] 27)
  have hbl : Below w.heap.size w (w.alloc (.cells #[.bool C, .bool Z, .bool S, .bool O, .bool P] 27)) := bX_ (Below.refl _ _) _
  have B0 := Aside0.mk b0
  have HB := Aside0.mk hbl
  have HT1 := Aside0.mk (HT.out.below hbl)
  clear b0 hbl
  generalize w.alloc (.cells #[.bool C, .bool Z, .bool S, .bool O, .bool P] 27) = w1 at *
  obtain ⟨⟨q0, q1, q2, q3, q4⟩, -⟩ := rows5 B0.out
  have t0 : w1.cell? ⟨0, 4, none⟩ = some (.func (.func 45) #[] #[]) := HT1.out.2.2.2.2.1
  have hl1 : w.heap.size < w1.heap.size := blk_lt B0.out
  go_region_held3 (fun w' => w'.cell? ⟨0, 4, none⟩ = some (.func (.func 45) #[] #[]) ∧ w'.cell? ⟨w.heap.size, 0, none⟩ = some (.bool C) ∧ w'.cell? ⟨w.heap.size, 1, none⟩ = some (.bool Z) ∧ w'.cell? ⟨w.heap.size, 2, none⟩ = some (.bool S) ∧ w'.cell? ⟨w.heap.size, 3, none⟩ = some (.bool O) ∧ w'.cell? ⟨w.heap.size, 4, none⟩ = some (.bool P)) (first | go_keep | (simp [*]; done) | (refine ⟨?_, ?_, ?_, ?_, ?_, ?_⟩ <;> (refine (hb3.cell (p := ⟨_, _, none⟩) ?_).trans ?_ <;> first | assumption | (show 0 < w1.heap.size; omega) | (show w.heap.size < w1.heap.size; omega)))) (first | (go_at_call 45; refine (holds_calls 4 (by decide) C Z S O P _).mono ?_; rintro e w3 ⟨rfl, hb3⟩))
  all_goals have HB3 := Aside0.mk hb3
  all_goals clear hb3
  all_goals go_wp2_with fail
  all_goals go_ret
  all_goals exact ⟨rfl, (HB.out.trans (show Below w.heap.size w1 w1.drew from ⟨rfl, rfl, rfl, Nat.le_refl _, fun _ _ => rfl⟩)).trans (HB3.out.mono (show w.heap.size ≤ w1.heap.size by omega))⟩
set_option maxHeartbeats 8000000 in
set_option maxRecDepth 100000 in
theorem cond_5 (C Z S O P : Bool) (cond q : Int) (w : World) (hT : Tab w) (h7 : Go.bits .and .u8 (cond / 2) 7 = 5) (h1 : Go.bits .and .u8 cond 1 = q) :
    Calls Tryd.prog 12 #[.agg #[.bool C, .bool Z, .bool S, .bool O, .bool P], .int .u8 cond] w fun e w' => e = .returned (.bool (holdsF 5 C Z S O P != (q == 1))) ∧ Below w.heap.size w w' := by
  have hu27 := Tryd.underlying27
  have HT := Aside0.mk hT
  have hlt := hT.lt
  clear hT
  go_enter Tryd.func12, Tryd.ntmps12
  go_upto_region 1 with (fail)
  have b0 := World.alloc_heap_new w (.cells #[.bool C, .bool Z, .bool S, .bool O, .bool P] 27)
  have hbl : Below w.heap.size w (w.alloc (.cells #[.bool C, .bool Z, .bool S, .bool O, .bool P] 27)) := bX_ (Below.refl _ _) _
  have B0 := Aside0.mk b0
  have HB := Aside0.mk hbl
  have HT1 := Aside0.mk (HT.out.below hbl)
  clear b0 hbl
  generalize w.alloc (.cells #[.bool C, .bool Z, .bool S, .bool O, .bool P] 27) = w1 at *
  obtain ⟨⟨q0, q1, q2, q3, q4⟩, -⟩ := rows5 B0.out
  have t0 : w1.cell? ⟨0, 5, none⟩ = some (.func (.func 46) #[] #[]) := HT1.out.2.2.2.2.2.1
  have hl1 : w.heap.size < w1.heap.size := blk_lt B0.out
  go_region_held3 (fun w' => w'.cell? ⟨0, 5, none⟩ = some (.func (.func 46) #[] #[]) ∧ w'.cell? ⟨w.heap.size, 0, none⟩ = some (.bool C) ∧ w'.cell? ⟨w.heap.size, 1, none⟩ = some (.bool Z) ∧ w'.cell? ⟨w.heap.size, 2, none⟩ = some (.bool S) ∧ w'.cell? ⟨w.heap.size, 3, none⟩ = some (.bool O) ∧ w'.cell? ⟨w.heap.size, 4, none⟩ = some (.bool P)) (first | go_keep | (simp [*]; done) | (refine ⟨?_, ?_, ?_, ?_, ?_, ?_⟩ <;> (refine (hb3.cell (p := ⟨_, _, none⟩) ?_).trans ?_ <;> first | assumption | (show 0 < w1.heap.size; omega) | (show w.heap.size < w1.heap.size; omega)))) (first | (go_at_call 46; refine (holds_calls 5 (by decide) C Z S O P _).mono ?_; rintro e w3 ⟨rfl, hb3⟩))
  all_goals have HB3 := Aside0.mk hb3
  all_goals clear hb3
  all_goals go_wp2_with fail
  all_goals go_ret
  all_goals exact ⟨rfl, (HB.out.trans (show Below w.heap.size w1 w1.drew from ⟨rfl, rfl, rfl, Nat.le_refl _, fun _ _ => rfl⟩)).trans (HB3.out.mono (show w.heap.size ≤ w1.heap.size by omega))⟩
set_option maxHeartbeats 8000000 in
set_option maxRecDepth 100000 in
theorem cond_6 (C Z S O P : Bool) (cond q : Int) (w : World) (hT : Tab w) (h7 : Go.bits .and .u8 (cond / 2) 7 = 6) (h1 : Go.bits .and .u8 cond 1 = q) :
    Calls Tryd.prog 12 #[.agg #[.bool C, .bool Z, .bool S, .bool O, .bool P], .int .u8 cond] w fun e w' => e = .returned (.bool (holdsF 6 C Z S O P != (q == 1))) ∧ Below w.heap.size w w' := by
  have hu27 := Tryd.underlying27
  have HT := Aside0.mk hT
  have hlt := hT.lt
  clear hT
  go_enter Tryd.func12, Tryd.ntmps12
  go_upto_region 1 with (fail)
  have b0 := World.alloc_heap_new w (.cells #[.bool C, .bool Z, .bool S, .bool O, .bool P] 27)
  have hbl : Below w.heap.size w (w.alloc (.cells #[.bool C, .bool Z, .bool S, .bool O, .bool P] 27)) := bX_ (Below.refl _ _) _
  have B0 := Aside0.mk b0
  have HB := Aside0.mk hbl
  have HT1 := Aside0.mk (HT.out.below hbl)
  clear b0 hbl
  generalize w.alloc (.cells #[.bool C, .bool Z, .bool S, .bool O, .bool P] 27) = w1 at *
  obtain ⟨⟨q0, q1, q2, q3, q4⟩, -⟩ := rows5 B0.out
  have t0 : w1.cell? ⟨0, 6, none⟩ = some (.func (.func 47) #[] #[]) := HT1.out.2.2.2.2.2.2.1
  have hl1 : w.heap.size < w1.heap.size := blk_lt B0.out
  go_region_held3 (fun w' => w'.cell? ⟨0, 6, none⟩ = some (.func (.func 47) #[] #[]) ∧ w'.cell? ⟨w.heap.size, 0, none⟩ = some (.bool C) ∧ w'.cell? ⟨w.heap.size, 1, none⟩ = some (.bool Z) ∧ w'.cell? ⟨w.heap.size, 2, none⟩ = some (.bool S) ∧ w'.cell? ⟨w.heap.size, 3, none⟩ = some (.bool O) ∧ w'.cell? ⟨w.heap.size, 4, none⟩ = some (.bool P)) (first | go_keep | (simp [*]; done) | (refine ⟨?_, ?_, ?_, ?_, ?_, ?_⟩ <;> (refine (hb3.cell (p := ⟨_, _, none⟩) ?_).trans ?_ <;> first | assumption | (show 0 < w1.heap.size; omega) | (show w.heap.size < w1.heap.size; omega)))) (first | (go_at_call 47; refine (holds_calls 6 (by decide) C Z S O P _).mono ?_; rintro e w3 ⟨rfl, hb3⟩))
  all_goals have HB3 := Aside0.mk hb3
  all_goals clear hb3
  all_goals go_wp2_with fail
  all_goals go_ret
  all_goals exact ⟨rfl, (HB.out.trans (show Below w.heap.size w1 w1.drew from ⟨rfl, rfl, rfl, Nat.le_refl _, fun _ _ => rfl⟩)).trans (HB3.out.mono (show w.heap.size ≤ w1.heap.size by omega))⟩
set_option maxHeartbeats 8000000 in
set_option maxRecDepth 100000 in
theorem cond_7 (C Z S O P : Bool) (cond q : Int) (w : World) (hT : Tab w) (h7 : Go.bits .and .u8 (cond / 2) 7 = 7) (h1 : Go.bits .and .u8 cond 1 = q) :
    Calls Tryd.prog 12 #[.agg #[.bool C, .bool Z, .bool S, .bool O, .bool P], .int .u8 cond] w fun e w' => e = .returned (.bool (holdsF 7 C Z S O P != (q == 1))) ∧ Below w.heap.size w w' := by
  have hu27 := Tryd.underlying27
  have HT := Aside0.mk hT
  have hlt := hT.lt
  clear hT
  go_enter Tryd.func12, Tryd.ntmps12
  go_upto_region 1 with (fail)
  have b0 := World.alloc_heap_new w (.cells #[.bool C, .bool Z, .bool S, .bool O, .bool P] 27)
  have hbl : Below w.heap.size w (w.alloc (.cells #[.bool C, .bool Z, .bool S, .bool O, .bool P] 27)) := bX_ (Below.refl _ _) _
  have B0 := Aside0.mk b0
  have HB := Aside0.mk hbl
  have HT1 := Aside0.mk (HT.out.below hbl)
  clear b0 hbl
  generalize w.alloc (.cells #[.bool C, .bool Z, .bool S, .bool O, .bool P] 27) = w1 at *
  obtain ⟨⟨q0, q1, q2, q3, q4⟩, -⟩ := rows5 B0.out
  have t0 : w1.cell? ⟨0, 7, none⟩ = some (.func (.func 48) #[] #[]) := HT1.out.2.2.2.2.2.2.2
  have hl1 : w.heap.size < w1.heap.size := blk_lt B0.out
  go_region_held3 (fun w' => w'.cell? ⟨0, 7, none⟩ = some (.func (.func 48) #[] #[]) ∧ w'.cell? ⟨w.heap.size, 0, none⟩ = some (.bool C) ∧ w'.cell? ⟨w.heap.size, 1, none⟩ = some (.bool Z) ∧ w'.cell? ⟨w.heap.size, 2, none⟩ = some (.bool S) ∧ w'.cell? ⟨w.heap.size, 3, none⟩ = some (.bool O) ∧ w'.cell? ⟨w.heap.size, 4, none⟩ = some (.bool P)) (first | go_keep | (simp [*]; done) | (refine ⟨?_, ?_, ?_, ?_, ?_, ?_⟩ <;> (refine (hb3.cell (p := ⟨_, _, none⟩) ?_).trans ?_ <;> first | assumption | (show 0 < w1.heap.size; omega) | (show w.heap.size < w1.heap.size; omega)))) (first | (go_at_call 48; refine (holds_calls 7 (by decide) C Z S O P _).mono ?_; rintro e w3 ⟨rfl, hb3⟩))
  all_goals have HB3 := Aside0.mk hb3
  all_goals clear hb3
  all_goals go_wp2_with fail
  all_goals go_ret
  all_goals exact ⟨rfl, (HB.out.trans (show Below w.heap.size w1 w1.drew from ⟨rfl, rfl, rfl, Nat.le_refl _, fun _ _ => rfl⟩)).trans (HB3.out.mono (show w.heap.size ≤ w1.heap.size by omega))⟩
def condF (C Z S O P : Bool) (cond : Int) : Bool := holdsF (cond / 2 % 8).toNat C Z S O P != (cond % 2 == 1)
theorem cond_calls (C Z S O P : Bool) (cond : Int) (h0 : 0 ≤ cond) (h2 : cond < 256) (w : World) (hT : Tab w) :
    Calls Tryd.prog 12 #[.agg #[.bool C, .bool Z, .bool S, .bool O, .bool P], .int .u8 cond] w fun e w' => e = .returned (.bool (condF C Z S O P cond)) ∧ Below w.heap.size w w' := by
  have h7 : Go.bits .and .u8 (cond / 2) 7 = cond / 2 % 8 := bits_mask .u8 8 (by decide) wraps_u8 3 (by decide) _ (by omega) (by omega)
  have h1 : Go.bits .and .u8 cond 1 = cond % 2 := bits_mask .u8 8 (by decide) wraps_u8 1 (by decide) _ h0 h2
  have h : cond / 2 % 8 = 0 ∨ cond / 2 % 8 = 1 ∨ cond / 2 % 8 = 2 ∨ cond / 2 % 8 = 3 ∨ cond / 2 % 8 = 4 ∨ cond / 2 % 8 = 5 ∨ cond / 2 % 8 = 6 ∨ cond / 2 % 8 = 7 := by omega
  unfold condF
  rcases h with h | h | h | h | h | h | h | h
  · rw [h] at h7 ⊢; exact cond_0 C Z S O P cond _ w hT h7 h1
  · rw [h] at h7 ⊢; exact cond_1 C Z S O P cond _ w hT h7 h1
  · rw [h] at h7 ⊢; exact cond_2 C Z S O P cond _ w hT h7 h1
  · rw [h] at h7 ⊢; exact cond_3 C Z S O P cond _ w hT h7 h1
  · rw [h] at h7 ⊢; exact cond_4 C Z S O P cond _ w hT h7 h1
  · rw [h] at h7 ⊢; exact cond_5 C Z S O P cond _ w hT h7 h1
  · rw [h] at h7 ⊢; exact cond_6 C Z S O P cond _ w hT h7 h1
  · rw [h] at h7 ⊢; exact cond_7 C Z S O P cond _ w hT h7 h1
end Go.Proofs.YtpmclnlgipphmaaDoor.B
