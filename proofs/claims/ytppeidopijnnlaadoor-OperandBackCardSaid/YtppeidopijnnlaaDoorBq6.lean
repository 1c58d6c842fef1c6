/- operand.Put at one constant operand (a register 9, memory at a base 4, 8 on). operand.Put, walked. operand.Put at memory beside the instruction, walked. -/
import Derived.Test.YtppeidopijnnlaaDoorBq3
import Derived.Test.YtppeidopijnnlaaDoorBq4
import Derived.Test.YtppeidopijnnlaaDoorBq5
namespace Go.Proofs.YtppeidopijnnlaaDoor.B
open Go.RowKit Go.Proofs.YtppeidopijnnlaaDoorW.PrintWords Go.Proofs.YtppeidopijnnlaaDoorW.PrintLast Go.Proofs.YtppeidopijnnlaaDoorW.PrintMore
attribute [local go_sem] max2_int min2_int max_two min_two max_three min_three max_four min_four   -- for this text's walks alone
set_option linter.unusedVariables false
set_option linter.unusedSimpArgs false
def operand_low.f (a0 : Int) : Option (Int) := some ((Go.bits .and .i64 a0 7) % 256)
set_option maxHeartbeats 8000000 in
set_option maxRecDepth 100000 in
theorem operand_low.calls (a0 : Int) (r : Int) (w : World) (h : operand_low.f a0 = some r) :
    Calls Tryd.prog 23 #[.int .i64 a0] w fun e w' => e = .returned (.int .u8 r) ∧ Drawn0 w w' := by
  have H : (some ((Go.bits .and .i64 a0 7) % 256)) = some r := h
  clear h
  obtain rfl := Option.some.inj H
  go_enter Tryd.func23, Tryd.ntmps23
  go_wp2
  go_ret
  exact ⟨by first | rfl | (simp; done) | (simp [*]; done), by repeat (first | exact Drawn0.refl _ | apply Drawn0.step)⟩
def operand_form.j0 : Nat → Bool → Int → Int → Int → Int → Int → Int → Bool → Int → Option (Int × Int)
  | 0, _, _, _, _, _, _, _, _, _ => none
  | k + 1, x8, x115000, x115001, x115002, x115003, x115004, x115005, x115006, x115007 => if x8 = true then (some (0, 0)) else (if (wrap64 (IntKind.i8.wrap (x115005))) = x115005 then (some (1, 1)) else (some (2, 4)))
def operand_form.f (k : Nat) (a0_0 : Int) (a0_1 : Int) (a0_2 : Int) (a0_3 : Int) (a0_4 : Int) (a0_5 : Int) (a0_6 : Bool) (a0_7 : Int) : Option (Int × Int) := if a0_2 < 0 then (some (0, 4)) else (if a0_5 = 0 then ((operand_low.f a0_2).bind fun t115 => (operand_form.j0 k (t115 != 5) a0_0 a0_1 a0_2 a0_3 a0_4 a0_5 a0_6 a0_7)) else (operand_form.j0 k false a0_0 a0_1 a0_2 a0_3 a0_4 a0_5 a0_6 a0_7))
set_option maxHeartbeats 8000000 in
set_option maxRecDepth 100000 in
theorem operand_form.calls (k : Nat) (a0_0 : Int) (a0_1 : Int) (a0_2 : Int) (a0_3 : Int) (a0_4 : Int) (a0_5 : Int) (a0_6 : Bool) (a0_7 : Int) (r1 : Int) (r2 : Int) (w : World) (h : operand_form.f k a0_0 a0_1 a0_2 a0_3 a0_4 a0_5 a0_6 a0_7 = some (r1, r2)) :
    Calls Tryd.prog 26 #[.agg #[.int .u8 a0_0, .int .i64 a0_1, .int .i64 a0_2, .int .i64 a0_3, .int .i64 a0_4, .int .i64 a0_5, .bool a0_6, .int .i64 a0_7]] w fun e w' => e = .returned (.tuple #[.int .u8 r1, .int .i64 r2]) ∧ Below w.heap.size w w' := by
  have hu23 := Tryd.underlying23
  have HB := Aside0.mk (Below.refl w.heap.size w)
  have H : (if a0_2 < 0 then (some (0, 4)) else (if a0_5 = 0 then ((operand_low.f a0_2).bind fun t115 => (operand_form.j0 k (t115 != 5) a0_0 a0_1 a0_2 a0_3 a0_4 a0_5 a0_6 a0_7)) else (operand_form.j0 k false a0_0 a0_1 a0_2 a0_3 a0_4 a0_5 a0_6 a0_7))) = some (r1, r2) := h
  clear h
  by_cases c2 : a0_2 < 0
  · rw [if_pos c2] at H
    have c2b0 : decide (a0_2 < 0) = true := decide_eq_true c2
    clear c2
    simp only [Option.some.injEq, Prod.mk.injEq] at H
    obtain ⟨rfl, rfl⟩ := H
    go_enter Tryd.func26, Tryd.ntmps26
    go_wp2_with (first | ((with_reducible refine gate_dst (N := 1) rfl ?_); refine box_event ?hg (N := 1) ?hd (cs := #[.int .u8 a0_0, .int .i64 a0_1, .int .i64 a0_2, .int .i64 a0_3, .int .i64 a0_4, .int .i64 a0_5, .bool a0_6, .int .i64 a0_7]) (t := 23) ?hr ?_; (case hd => rfl); (case hg => rfl); (case hr => first | (go_simp; done) | (go_simp; rfl)); intro gb114 hg w3 hbox hb; have n0_ := Aside0.mk (below_step (by repeat (first | (with_reducible first | exact HB.out | apply bX_ | apply bW_ | apply bY_) | exact HB.out)) hb); have n1_ := Aside0.mk (hbox); have n2_ := Aside0.mk ((by rw [hg]; exact (below_size (by repeat (first | (with_reducible first | exact HB.out | apply bX_ | apply bW_ | apply bY_) | exact HB.out))) : w.heap.size ≤ gb114)); have n3_ := Aside0.mk ((by rw [hg]; exact (below_size (by repeat (first | (with_reducible first | exact HB.out | apply bX_ | apply bW_ | apply bY_) | exact HB.out))) : w.heap.size ≤ gb114)); clear HB; have HB := n0_; have BK114 := n1_; have GW114 := n2_; have GE114 := n3_; clear n0_ n1_ n2_ n3_; clear hb hbox hg; have hcz4_0 : w3.cell? ⟨gb114, 0, none⟩ = some (.int .u8 a0_0) := (bC_ BK114.out 0).trans rfl; have hcz4_1 : w3.cell? ⟨gb114, 1, none⟩ = some (.int .i64 a0_1) := (bC_ BK114.out 1).trans rfl; have hcz4_2 : w3.cell? ⟨gb114, 2, none⟩ = some (.int .i64 a0_2) := (bC_ BK114.out 2).trans rfl; have hcz4_3 : w3.cell? ⟨gb114, 3, none⟩ = some (.int .i64 a0_3) := (bC_ BK114.out 3).trans rfl; have hcz4_4 : w3.cell? ⟨gb114, 4, none⟩ = some (.int .i64 a0_4) := (bC_ BK114.out 4).trans rfl; have hcz4_5 : w3.cell? ⟨gb114, 5, none⟩ = some (.int .i64 a0_5) := (bC_ BK114.out 5).trans rfl; have hcz4_6 : w3.cell? ⟨gb114, 6, none⟩ = some (.bool a0_6) := (bC_ BK114.out 6).trans rfl; have hcz4_7 : w3.cell? ⟨gb114, 7, none⟩ = some (.int .i64 a0_7) := (bC_ BK114.out 7).trans rfl; have hfz4_0 := bF_ BK114.out 0; have hfz4_1 := bF_ BK114.out 1; have hfz4_2 := bF_ BK114.out 2; have hfz4_3 := bF_ BK114.out 3; have hfz4_4 := bF_ BK114.out 4; have hfz4_5 := bF_ BK114.out 5; have hfz4_6 := bF_ BK114.out 6; have hfz4_7 := bF_ BK114.out 7))
    go_ret2
    exact ⟨by first | rfl | (simp [errW_none, errW_some] <;> rfl) | (simp [*, errW_none, errW_some] <;> rfl), by repeat (first | (with_reducible first | exact HB.out | apply bX_ | apply bW_ | apply bY_ | refine bS_ ?_ GE114.out) | exact HB.out)⟩
  · rw [if_neg c2] at H
    have c2b0 : decide (a0_2 < 0) = false := decide_eq_false c2
    clear c2
    have HC5 := Aside0.mk H
    clear H
    go_enter Tryd.func26, Tryd.ntmps26
    go_upto_region 3 with (first | ((with_reducible refine gate_dst (N := 1) rfl ?_); refine box_event ?hg (N := 1) ?hd (cs := #[.int .u8 a0_0, .int .i64 a0_1, .int .i64 a0_2, .int .i64 a0_3, .int .i64 a0_4, .int .i64 a0_5, .bool a0_6, .int .i64 a0_7]) (t := 23) ?hr ?_; (case hd => rfl); (case hg => rfl); (case hr => first | (go_simp; done) | (go_simp; rfl)); intro gb114 hg w6 hbox hb; have n0_ := Aside0.mk (below_step (by repeat (first | (with_reducible first | exact HB.out | apply bX_ | apply bW_ | apply bY_) | exact HB.out)) hb); have n1_ := Aside0.mk (hbox); have n2_ := Aside0.mk ((by rw [hg]; exact (below_size (by repeat (first | (with_reducible first | exact HB.out | apply bX_ | apply bW_ | apply bY_) | exact HB.out))) : w.heap.size ≤ gb114)); have n3_ := Aside0.mk ((by rw [hg]; exact (below_size (by repeat (first | (with_reducible first | exact HB.out | apply bX_ | apply bW_ | apply bY_) | exact HB.out))) : w.heap.size ≤ gb114)); clear HB; have HB := n0_; have BK114 := n1_; have GW114 := n2_; have GE114 := n3_; clear n0_ n1_ n2_ n3_; clear hb hbox hg; have hcz7_0 : w6.cell? ⟨gb114, 0, none⟩ = some (.int .u8 a0_0) := (bC_ BK114.out 0).trans rfl; have hcz7_1 : w6.cell? ⟨gb114, 1, none⟩ = some (.int .i64 a0_1) := (bC_ BK114.out 1).trans rfl; have hcz7_2 : w6.cell? ⟨gb114, 2, none⟩ = some (.int .i64 a0_2) := (bC_ BK114.out 2).trans rfl; have hcz7_3 : w6.cell? ⟨gb114, 3, none⟩ = some (.int .i64 a0_3) := (bC_ BK114.out 3).trans rfl; have hcz7_4 : w6.cell? ⟨gb114, 4, none⟩ = some (.int .i64 a0_4) := (bC_ BK114.out 4).trans rfl; have hcz7_5 : w6.cell? ⟨gb114, 5, none⟩ = some (.int .i64 a0_5) := (bC_ BK114.out 5).trans rfl; have hcz7_6 : w6.cell? ⟨gb114, 6, none⟩ = some (.bool a0_6) := (bC_ BK114.out 6).trans rfl; have hcz7_7 : w6.cell? ⟨gb114, 7, none⟩ = some (.int .i64 a0_7) := (bC_ BK114.out 7).trans rfl; have hfz7_0 := bF_ BK114.out 0; have hfz7_1 := bF_ BK114.out 1; have hfz7_2 := bF_ BK114.out 2; have hfz7_3 := bF_ BK114.out 3; have hfz7_4 := bF_ BK114.out 4; have hfz7_5 := bF_ BK114.out 5; have hfz7_6 := bF_ BK114.out 6; have hfz7_7 := bF_ BK114.out 7))
    (try simp only [Act.put, List.setIfInBounds_toArray, List.set_cons_zero, List.set_cons_succ])
    go_cut [8] (fun v8 wc => ∃ (kq : Nat) (x8_4 : Bool), v8 = .bool x8_4 ∧ Aside0 (operand_form.j0 kq x8_4 a0_0 a0_1 a0_2 a0_3 a0_4 a0_5 a0_6 a0_7 = some (r1, r2)) ∧ Aside0 (kq ≤ k) ∧ Aside0 (wc.heap[gb114]? = some (.cells #[.int .u8 a0_0, .int .i64 a0_1, .int .i64 a0_2, .int .i64 a0_3, .int .i64 a0_4, .int .i64 a0_5, .bool a0_6, .int .i64 a0_7] 23 (0, 0))) ∧ Aside0 (Below w.heap.size w wc))
    case first =>
      have H := HC5.out
      clear HC5
      by_cases c8 : a0_5 = 0
      · rw [if_pos c8] at H
        have c8b0 : (a0_5 == 0) = true := beq_iff_eq.mpr c8
        have c8b1 : (a0_5 != 0) = false := bne_eq_false_iff_eq.mpr c8
        clear c8
        (first | rw [c8b0] | (simp only [i64_w, i32_w]; rw [c8b0]) | skip)
        replace H := Option.bind_eq_some_iff.mp H
        obtain ⟨t115, A90, H⟩ := H
        replace H : (operand_form.j0 k (t115 != 5) a0_0 a0_1 a0_2 a0_3 a0_4 a0_5 a0_6 a0_7) = some (r1, r2) := H
        have A9 := Aside0.mk A90
        clear A90
        have H' := Aside0.mk H
        clear H
        have hcz10_0 : w6.cell? ⟨gb114, 0, none⟩ = some (.int .u8 a0_0) := (bC_ BK114.out 0).trans rfl
        have hcz10_1 : w6.cell? ⟨gb114, 1, none⟩ = some (.int .i64 a0_1) := (bC_ BK114.out 1).trans rfl
        have hcz10_2 : w6.cell? ⟨gb114, 2, none⟩ = some (.int .i64 a0_2) := (bC_ BK114.out 2).trans rfl
        have hcz10_3 : w6.cell? ⟨gb114, 3, none⟩ = some (.int .i64 a0_3) := (bC_ BK114.out 3).trans rfl
        have hcz10_4 : w6.cell? ⟨gb114, 4, none⟩ = some (.int .i64 a0_4) := (bC_ BK114.out 4).trans rfl
        have hcz10_5 : w6.cell? ⟨gb114, 5, none⟩ = some (.int .i64 a0_5) := (bC_ BK114.out 5).trans rfl
        have hcz10_6 : w6.cell? ⟨gb114, 6, none⟩ = some (.bool a0_6) := (bC_ BK114.out 6).trans rfl
        have hcz10_7 : w6.cell? ⟨gb114, 7, none⟩ = some (.int .i64 a0_7) := (bC_ BK114.out 7).trans rfl
        have hfz10_0 := bF_ BK114.out 0
        have hfz10_1 := bF_ BK114.out 1
        have hfz10_2 := bF_ BK114.out 2
        have hfz10_3 := bF_ BK114.out 3
        have hfz10_4 := bF_ BK114.out 4
        have hfz10_5 := bF_ BK114.out 5
        have hfz10_6 := bF_ BK114.out 6
        have hfz10_7 := bF_ BK114.out 7
        go_wp2_with (first | (go_at_call 23; (with_reducible refine (operand_low.calls a0_2 t115 _ A9.out).mono ?_); rintro e w' ⟨rfl, ⟨nd, rfl⟩⟩))
        go_meet
        case rel => exact ⟨_, ((t115 != 5)), (by first | rfl | (simp; done) | (simp [*]; done)), H', ⟨by first | omega | exact Nat.le_refl _⟩, ⟨by (with_reducible repeat (first | refine bN_ ?_ _ | refine bD_ ?_ | refine bA_ ?_ _)); exact BK114.out⟩, ⟨by repeat (first | (with_reducible first | exact HB.out | apply bX_ | apply bW_ | apply bY_ | refine bS_ ?_ GE114.out) | exact HB.out)⟩⟩
      · rw [if_neg c8] at H
        have c8b0 : (a0_5 == 0) = false := beq_eq_false_iff_ne.mpr c8
        have c8b1 : (a0_5 != 0) = true := bne_iff_ne.mpr c8
        (first | rw [c8b0] | (simp only [i64_w, i32_w]; rw [c8b0]) | skip)
        have H' := Aside0.mk H
        clear H
        have hcz11_0 : w6.cell? ⟨gb114, 0, none⟩ = some (.int .u8 a0_0) := (bC_ BK114.out 0).trans rfl
        have hcz11_1 : w6.cell? ⟨gb114, 1, none⟩ = some (.int .i64 a0_1) := (bC_ BK114.out 1).trans rfl
        have hcz11_2 : w6.cell? ⟨gb114, 2, none⟩ = some (.int .i64 a0_2) := (bC_ BK114.out 2).trans rfl
        have hcz11_3 : w6.cell? ⟨gb114, 3, none⟩ = some (.int .i64 a0_3) := (bC_ BK114.out 3).trans rfl
        have hcz11_4 : w6.cell? ⟨gb114, 4, none⟩ = some (.int .i64 a0_4) := (bC_ BK114.out 4).trans rfl
        have hcz11_5 : w6.cell? ⟨gb114, 5, none⟩ = some (.int .i64 a0_5) := (bC_ BK114.out 5).trans rfl
        have hcz11_6 : w6.cell? ⟨gb114, 6, none⟩ = some (.bool a0_6) := (bC_ BK114.out 6).trans rfl
        have hcz11_7 : w6.cell? ⟨gb114, 7, none⟩ = some (.int .i64 a0_7) := (bC_ BK114.out 7).trans rfl
        have hfz11_0 := bF_ BK114.out 0
        have hfz11_1 := bF_ BK114.out 1
        have hfz11_2 := bF_ BK114.out 2
        have hfz11_3 := bF_ BK114.out 3
        have hfz11_4 := bF_ BK114.out 4
        have hfz11_5 := bF_ BK114.out 5
        have hfz11_6 := bF_ BK114.out 6
        have hfz11_7 := bF_ BK114.out 7
        go_wp2
        go_meet
        case rel => exact ⟨_, (false), (by first | rfl | (simp; done) | (simp [*]; done)), H', ⟨by first | omega | exact Nat.le_refl _⟩, ⟨by (with_reducible repeat (first | refine bN_ ?_ _ | refine bD_ ?_ | refine bA_ ?_ _)); exact BK114.out⟩, ⟨by repeat (first | (with_reducible first | exact HB.out | apply bX_ | apply bW_ | apply bY_ | refine bS_ ?_ GE114.out) | exact HB.out)⟩⟩
    case rest =>
      clear HC5
      (try clear c2); (try clear c2b0); (try clear p2); (try clear c8); (try clear c8b0); (try clear c8b1)
      obtain ⟨kq, x8_4, rfl, HA, HJ4, BK114, HB⟩ := hcut
      cases kq with
      | zero => exact absurd HA.out (by simp [operand_form.j0])
      | succ kj4 =>
        have H := HA.out
        clear HA
        simp only [operand_form.j0] at H
        by_cases c12 : x8_4 = true
        · subst c12
          have H1 : (some (0, 0)) = some (r1, r2) := by rw [if_pos rfl] at H; exact H
          clear H
          have H := H1
          clear H1
          simp only [Option.some.injEq, Prod.mk.injEq] at H
          obtain ⟨rfl, rfl⟩ := H
          go_wp2
          go_ret2
          exact ⟨by first | rfl | (simp [errW_none, errW_some] <;> rfl) | (simp [*, errW_none, errW_some] <;> rfl), by repeat (first | (with_reducible first | exact HB.out | apply bX_ | apply bW_ | apply bY_ | refine bS_ ?_ GE114.out) | exact HB.out)⟩
        · replace c12 := Bool.eq_false_iff.mpr c12
          subst c12
          have H1 : (if (wrap64 (IntKind.i8.wrap (a0_5))) = a0_5 then (some (1, 1)) else (some (2, 4))) = some (r1, r2) := by rw [if_neg (show ¬ (false = true) by decide)] at H; exact H
          clear H
          have H := H1
          clear H1
          by_cases c13 : (wrap64 (IntKind.i8.wrap (a0_5))) = a0_5
          · rw [if_pos c13] at H
            have c13b0 : ((wrap64 (IntKind.i8.wrap (a0_5))) == a0_5) = true := beq_iff_eq.mpr c13
            have c13b1 : ((wrap64 (IntKind.i8.wrap (a0_5))) != a0_5) = false := bne_eq_false_iff_eq.mpr c13
            clear c13
            simp only [Option.some.injEq, Prod.mk.injEq] at H
            obtain ⟨rfl, rfl⟩ := H
            have hcz14_0 : wc.cell? ⟨gb114, 0, none⟩ = some (.int .u8 a0_0) := (bC_ BK114.out 0).trans rfl
            have hcz14_1 : wc.cell? ⟨gb114, 1, none⟩ = some (.int .i64 a0_1) := (bC_ BK114.out 1).trans rfl
            have hcz14_2 : wc.cell? ⟨gb114, 2, none⟩ = some (.int .i64 a0_2) := (bC_ BK114.out 2).trans rfl
            have hcz14_3 : wc.cell? ⟨gb114, 3, none⟩ = some (.int .i64 a0_3) := (bC_ BK114.out 3).trans rfl
            have hcz14_4 : wc.cell? ⟨gb114, 4, none⟩ = some (.int .i64 a0_4) := (bC_ BK114.out 4).trans rfl
            have hcz14_5 : wc.cell? ⟨gb114, 5, none⟩ = some (.int .i64 a0_5) := (bC_ BK114.out 5).trans rfl
            have hcz14_6 : wc.cell? ⟨gb114, 6, none⟩ = some (.bool a0_6) := (bC_ BK114.out 6).trans rfl
            have hcz14_7 : wc.cell? ⟨gb114, 7, none⟩ = some (.int .i64 a0_7) := (bC_ BK114.out 7).trans rfl
            have hfz14_0 := bF_ BK114.out 0
            have hfz14_1 := bF_ BK114.out 1
            have hfz14_2 := bF_ BK114.out 2
            have hfz14_3 := bF_ BK114.out 3
            have hfz14_4 := bF_ BK114.out 4
            have hfz14_5 := bF_ BK114.out 5
            have hfz14_6 := bF_ BK114.out 6
            have hfz14_7 := bF_ BK114.out 7
            go_wp2
            go_ret2
            exact ⟨by first | rfl | (simp [errW_none, errW_some] <;> rfl) | (simp [*, errW_none, errW_some] <;> rfl), by repeat (first | (with_reducible first | exact HB.out | apply bX_ | apply bW_ | apply bY_ | refine bS_ ?_ GE114.out) | exact HB.out)⟩
          · rw [if_neg c13] at H
            have c13b0 : ((wrap64 (IntKind.i8.wrap (a0_5))) == a0_5) = false := beq_eq_false_iff_ne.mpr c13
            have c13b1 : ((wrap64 (IntKind.i8.wrap (a0_5))) != a0_5) = true := bne_iff_ne.mpr c13
            simp only [Option.some.injEq, Prod.mk.injEq] at H
            obtain ⟨rfl, rfl⟩ := H
            have hcz15_0 : wc.cell? ⟨gb114, 0, none⟩ = some (.int .u8 a0_0) := (bC_ BK114.out 0).trans rfl
            have hcz15_1 : wc.cell? ⟨gb114, 1, none⟩ = some (.int .i64 a0_1) := (bC_ BK114.out 1).trans rfl
            have hcz15_2 : wc.cell? ⟨gb114, 2, none⟩ = some (.int .i64 a0_2) := (bC_ BK114.out 2).trans rfl
            have hcz15_3 : wc.cell? ⟨gb114, 3, none⟩ = some (.int .i64 a0_3) := (bC_ BK114.out 3).trans rfl
            have hcz15_4 : wc.cell? ⟨gb114, 4, none⟩ = some (.int .i64 a0_4) := (bC_ BK114.out 4).trans rfl
            have hcz15_5 : wc.cell? ⟨gb114, 5, none⟩ = some (.int .i64 a0_5) := (bC_ BK114.out 5).trans rfl
            have hcz15_6 : wc.cell? ⟨gb114, 6, none⟩ = some (.bool a0_6) := (bC_ BK114.out 6).trans rfl
            have hcz15_7 : wc.cell? ⟨gb114, 7, none⟩ = some (.int .i64 a0_7) := (bC_ BK114.out 7).trans rfl
            have hfz15_0 := bF_ BK114.out 0
            have hfz15_1 := bF_ BK114.out 1
            have hfz15_2 := bF_ BK114.out 2
            have hfz15_3 := bF_ BK114.out 3
            have hfz15_4 := bF_ BK114.out 4
            have hfz15_5 := bF_ BK114.out 5
            have hfz15_6 := bF_ BK114.out 6
            have hfz15_7 := bF_ BK114.out 7
            go_wp2
            go_ret2
            exact ⟨by first | rfl | (simp [errW_none, errW_some] <;> rfl) | (simp [*, errW_none, errW_some] <;> rfl), by repeat (first | (with_reducible first | exact HB.out | apply bX_ | apply bW_ | apply bY_ | refine bS_ ?_ GE114.out) | exact HB.out)⟩
def operand_high.f (a0 : Int) : Option (Int) := some ((Go.bits .and .i64 (a0 / 8) 1) % 256)
set_option maxHeartbeats 8000000 in
set_option maxRecDepth 100000 in
theorem operand_high.calls (a0 : Int) (r : Int) (w : World) (h : operand_high.f a0 = some r) :
    Calls Tryd.prog 24 #[.int .i64 a0] w fun e w' => e = .returned (.int .u8 r) ∧ Drawn0 w w' := by
  have H : (some ((Go.bits .and .i64 (a0 / 8) 1) % 256)) = some r := h
  clear h
  obtain rfl := Option.some.inj H
  go_enter Tryd.func24, Tryd.ntmps24
  go_wp2
  go_ret
  exact ⟨by first | rfl | (simp; done) | (simp [*]; done), by repeat (first | exact Drawn0.refl _ | apply Drawn0.step)⟩
end Go.Proofs.YtppeidopijnnlaaDoor.B
namespace Go.Proofs.YtppeidopijnnlaaDoor.B
open Go.RowKit Go.Proofs.YtppeidopijnnlaaDoorW.PrintWords Go.Proofs.YtppeidopijnnlaaDoorW.PrintMore Go.RF
set_option linter.unusedVariables false
set_option linter.unusedSimpArgs false
attribute [local go_sem] Oper.semAt_some
theorem results9 : Tryd.f9.results = #[.cell 4 24, .tmp 5, .tmp 6] := rfl
theorem results_put {T : Array Value} {W : World} {b : Nat} {v : Value} (h : W.heap[b]? = some (.cells #[v] 24 (0, 0))) (ht : T.getD 4 undef = .pointer (some ⟨b, 0, none⟩)) :
    (results Tryd.f9 T).run Tryd.prog W = .ok (.tuple #[v, T.getD 5 undef, T.getD 6 undef]) W := by
  have q := (cell_of_block h).1
  have hu24 := Tryd.underlying24
  have ht1 : T[4]?.getD undef = .pointer (some ⟨b, 0, none⟩) := by rw [← ht]; simp
  simp only [results, results9]
  simp [go_sem, ht1, q]
theorem dispB1 : dispB 8 1 = [8] := by decide +kernel
theorem right1 : operand_Right.f 1 2 0 4 (-1) 1 8 false 0 = some true := by decide +kernel
theorem form1 : operand_form.f 1 2 0 4 (-1) 1 8 false 0 = some (1, 1) := by decide +kernel
theorem low9 : operand_low.f 9 = some 1 := by decide +kernel
theorem low4 : operand_low.f 4 = some 4 := by decide +kernel
theorem high9 : operand_high.f 9 = some 1 := by decide +kernel
theorem high4 : operand_high.f 4 = some 0 := by decide +kernel
set_option maxHeartbeats 8000000 in
set_option maxRecDepth 100000 in
theorem put1_calls (w : World) :
    Calls Tryd.prog 9 #[.int .i64 9, .agg #[.int .u8 2, .int .i64 0, .int .i64 4, .int .i64 (-1), .int .i64 1, .int .i64 8, .bool false, .int .i64 0]] w fun e w' => ∃ v0_ : Value, e = .returned (.tuple #[v0_, .int .u8 4, .int .i64 0]) ∧ Kd.R (Kd.int .u8) 5 w' w.heap.size (fun _ => True) v0_ [76, 36, 8] ∧ Below w.heap.size w w' := by
  have hu23 := Tryd.underlying23
  go_enter Tryd.func9, Tryd.ntmps9
  go_upto_region 1 with (fail)
  have b3 := World.alloc_heap_new w (.cells #[.int .u8 2, .int .i64 0, .int .i64 4, .int .i64 (-1), .int .i64 1, .int .i64 8, .bool false, .int .i64 0] 23)
  have b4 := World.alloc_heap_new (w.alloc (.cells #[.int .u8 2, .int .i64 0, .int .i64 4, .int .i64 (-1), .int .i64 1, .int .i64 8, .bool false, .int .i64 0] 23)) (.cells #[.slice none 0 0] 24)
  rw [World.size_alloc] at b4
  have b3' := (Below.heap_alloc (w.alloc (.cells #[.int .u8 2, .int .i64 0, .int .i64 4, .int .i64 (-1), .int .i64 1, .int .i64 8, .bool false, .int .i64 0] 23)) (.cells #[.slice none 0 0] 24) _ (Array.getElem?_eq_some_iff.1 b3).1).trans b3
  have hbl : Below w.heap.size w ((w.alloc (.cells #[.int .u8 2, .int .i64 0, .int .i64 4, .int .i64 (-1), .int .i64 1, .int .i64 8, .bool false, .int .i64 0] 23)).alloc (.cells #[.slice none 0 0] 24)) := bX_ (bX_ (Below.refl _ _) _) _
  have B3 := Aside0.mk b3'
  have B4 := Aside0.mk b4
  have HB := Aside0.mk hbl
  clear b3 b4 b3' hbl
  generalize (w.alloc (.cells #[.int .u8 2, .int .i64 0, .int .i64 4, .int .i64 (-1), .int .i64 1, .int .i64 8, .bool false, .int .i64 0] 23)).alloc (.cells #[.slice none 0 0] 24) = w1 at *
  obtain ⟨⟨q0, q1, q2, q3, q4, q5, q6, q7⟩, -⟩ := rows8 B3.out
  go_upto_region 3 with (first | (go_at_call 15; refine (operand_Right.calls 1 2 0 4 (-1) 1 8 false 0 true w1 right1).mono ?_; rintro e w2 ⟨rfl, hb2⟩))
  have B32 := Aside0.mk (blk_below B3.out hb2)
  have B42 := Aside0.mk (blk_below B4.out hb2)
  have HB2 := Aside0.mk (HB.out.trans (hb2.mono HB.out.size))
  clear B3 B4 HB hb2 q0 q1 q2 q3 q4 q5 q6 q7
  go_upto_region 4 with (first | (go_at_call 23; refine (operand_low.calls 9 1 w2 low9).mono ?_; rintro e w3 ⟨rfl, n3, rfl⟩))
  go_upto_region 5 with (first | (go_at_call 24; refine (operand_high.calls 9 1 _ high9).mono ?_; rintro e w4 ⟨rfl, n4, rfl⟩))
  have B35 : Aside0 ((w2.drewN (n3 + n4)).heap[w.heap.size]? = some (.cells #[.int .u8 2, .int .i64 0, .int .i64 4, .int .i64 (-1), .int .i64 1, .int .i64 8, .bool false, .int .i64 0] 23)) := ⟨B32.out⟩
  have B45 : Aside0 ((w2.drewN (n3 + n4)).heap[w.heap.size + 1]? = some (.cells #[.slice none 0 0] 24)) := ⟨B42.out⟩
  have HB5 : Aside0 (Below w.heap.size w (w2.drewN (n3 + n4))) := ⟨HB2.out.trans ⟨rfl, rfl, rfl, Nat.le_refl _, fun _ _ => rfl⟩⟩
  clear B32 B42 HB2
  generalize w2.drewN (n3 + n4) = w5 at *
  obtain ⟨⟨q0, q1, q2, q3, q4, q5, q6, q7⟩, -⟩ := rows8 B35.out
  go_upto_region 12 with (fail)
  go_upto_region 13 with (first | (go_at_call 26; refine (operand_form.calls 1 2 0 4 (-1) 1 8 false 0 1 1 w5 form1).mono ?_; rintro e w6 ⟨rfl, hb6⟩))
  have B36 := Aside0.mk (blk_below B35.out hb6)
  have B46 := Aside0.mk (blk_below B45.out hb6)
  have HB6 := Aside0.mk (HB5.out.trans (hb6.mono HB5.out.size))
  clear B35 B45 HB5 hb6 q0 q1 q2 q3 q4 q5 q6 q7
  obtain ⟨⟨q0, q1, q2, q3, q4, q5, q6, q7⟩, -⟩ := rows8 B36.out
  go_upto_if 65 with (fail)
  go_cut [5, 11] from 14 to 73 (fun v5 v11 wc => v5 = .int .u8 4 ∧ v11 = .int .u8 4 ∧ Aside0 (wc.heap[w.heap.size]? = some (.cells #[.int .u8 2, .int .i64 0, .int .i64 4, .int .i64 (-1), .int .i64 1, .int .i64 8, .bool false, .int .i64 0] 23)) ∧ Aside0 (wc.heap[w.heap.size + 1]? = some (.cells #[.slice none 0 0] 24)) ∧ Aside0 (Below w.heap.size w wc))
  case first =>
    go_upto_region 15 with (fail)
    go_region_with (first | (go_at_call 23; refine (operand_low.calls 4 4 _ low4).mono ?_; rintro e w7 ⟨rfl, n7, rfl⟩) | (go_at_call 24; refine (operand_high.calls 4 0 _ high4).mono ?_; rintro e w8 ⟨rfl, n8, rfl⟩))
    all_goals go_wp2
    all_goals go_meet
    all_goals exact ⟨by rfl, by rfl, ⟨B36.out⟩, ⟨B46.out⟩, ⟨HB6.out.trans ⟨rfl, rfl, rfl, Nat.le_refl _, fun _ _ => rfl⟩⟩⟩
  case rest =>
    obtain ⟨rfl, rfl, B37, B47, HB7⟩ := hcut
    generalize wc = w7 at *
    clear B36 B46 HB6 q0 q1 q2 q3 q4 q5 q6 q7
    obtain ⟨⟨q0, q1, q2, q3, q4, q5, q6, q7⟩, -⟩ := rows8 B37.out
    obtain ⟨qb, zb⟩ := cell_of_block B47.out
    have hl1 : w.heap.size + 1 < w7.heap.size := blk_lt B47.out
    have hl0 : w.heap.size < w7.heap.size := by omega
    have hX : Go.bits .or .u8 (Go.bits .or .u8 64 8) 4 = 76 := by decide +kernel
    have hY : Go.bits .or .u8 (Go.bits .or .u8 0 32) 4 = 36 := by decide +kernel
    go_upto_region 19 with (fail)
    have hk8 : Keeps (fun k => k = w.heap.size + 1) w7 ((w7.setCell ⟨w.heap.size + 1, 0, none⟩ (.slice (some ⟨w7.heap.size, 0, none⟩) 1 1)).alloc (.cells #[.int .u8 76] 5)) := ((Keeps.refl (fun k => k = w.heap.size + 1) w7).setCell ⟨w.heap.size + 1, 0, none⟩ _ rfl).alloc _
    have B38 : Aside0 (((w7.setCell ⟨w.heap.size + 1, 0, none⟩ (.slice (some ⟨w7.heap.size, 0, none⟩) 1 1)).alloc (.cells #[.int .u8 76] 5)).heap[w.heap.size]? = some (.cells #[.int .u8 2, .int .i64 0, .int .i64 4, .int .i64 (-1), .int .i64 1, .int .i64 8, .bool false, .int .i64 0] 23)) := ⟨hk8.at_ B37.out (by omega)⟩
    have B48 : Aside0 (((w7.setCell ⟨w.heap.size + 1, 0, none⟩ (.slice (some ⟨w7.heap.size, 0, none⟩) 1 1)).alloc (.cells #[.int .u8 76] 5)).heap[w.heap.size + 1]? = some (.cells #[.slice (some ⟨w7.heap.size, 0, none⟩) 1 1] 24)) := ⟨(Below.heap_alloc _ _ _ (by show _ < (w7.setCell _ _).heap.size; rw [World.size_setCell]; exact hl1)).trans (blk_store B47.out _)⟩
    have HB8 : Aside0 (Below w.heap.size w ((w7.setCell ⟨w.heap.size + 1, 0, none⟩ (.slice (some ⟨w7.heap.size, 0, none⟩) 1 1)).alloc (.cells #[.int .u8 76] 5))) := ⟨HB7.out.trans (hk8.below (by omega) (fun k hk h => by omega))⟩
    clear hk8 B37 B47 HB7 q0 q1 q2 q3 q4 q5 q6 q7 qb zb hl1 hl0
    generalize w7.heap.size = g7 at *
    generalize ((w7.setCell ⟨w.heap.size + 1, 0, none⟩ (.slice (some ⟨g7, 0, none⟩) 1 1)).alloc (.cells #[.int .u8 76] 5)) = w8 at *
    obtain ⟨⟨q0, q1, q2, q3, q4, q5, q6, q7⟩, -⟩ := rows8 B38.out
    obtain ⟨qb, zb⟩ := cell_of_block B48.out
    have hl1 : w.heap.size + 1 < w8.heap.size := blk_lt B48.out
    have hl0 : w.heap.size < w8.heap.size := by omega
    go_upto_region 21 with (fail)
    have hk9 : Keeps (fun k => k = w.heap.size + 1) w8 ((w8.setCell ⟨w.heap.size + 1, 0, none⟩ (.slice (some ⟨w8.heap.size, 0, none⟩) 2 2)).alloc (.cells #[.int .u8 76, .int .u8 36] 5)) := ((Keeps.refl (fun k => k = w.heap.size + 1) w8).setCell ⟨w.heap.size + 1, 0, none⟩ _ rfl).alloc _
    have B39 : Aside0 (((w8.setCell ⟨w.heap.size + 1, 0, none⟩ (.slice (some ⟨w8.heap.size, 0, none⟩) 2 2)).alloc (.cells #[.int .u8 76, .int .u8 36] 5)).heap[w.heap.size]? = some (.cells #[.int .u8 2, .int .i64 0, .int .i64 4, .int .i64 (-1), .int .i64 1, .int .i64 8, .bool false, .int .i64 0] 23)) := ⟨hk9.at_ B38.out (by omega)⟩
    have B49 : Aside0 (((w8.setCell ⟨w.heap.size + 1, 0, none⟩ (.slice (some ⟨w8.heap.size, 0, none⟩) 2 2)).alloc (.cells #[.int .u8 76, .int .u8 36] 5)).heap[w.heap.size + 1]? = some (.cells #[.slice (some ⟨w8.heap.size, 0, none⟩) 2 2] 24)) := ⟨(Below.heap_alloc _ _ _ (by show _ < (w8.setCell _ _).heap.size; rw [World.size_setCell]; exact hl1)).trans (blk_store B48.out _)⟩
    have HB9 : Aside0 (Below w.heap.size w ((w8.setCell ⟨w.heap.size + 1, 0, none⟩ (.slice (some ⟨w8.heap.size, 0, none⟩) 2 2)).alloc (.cells #[.int .u8 76, .int .u8 36] 5))) := ⟨HB8.out.trans (hk9.below (by omega) (fun k hk h => by omega))⟩
    have HS9 : Aside0 (w.heap.size + 2 ≤ ((w8.setCell ⟨w.heap.size + 1, 0, none⟩ (.slice (some ⟨w8.heap.size, 0, none⟩) 2 2)).alloc (.cells #[.int .u8 76, .int .u8 36] 5)).heap.size) := ⟨by rw [World.size_alloc, World.size_setCell]; omega⟩
    have HO9 : Aside0 (((w8.setCell ⟨w.heap.size + 1, 0, none⟩ (.slice (some ⟨w8.heap.size, 0, none⟩) 2 2)).alloc (.cells #[.int .u8 76, .int .u8 36] 5)).ownsRow (w.heap.size + 2) 5 1 (.slice (some ⟨w8.heap.size, 0, none⟩) 2 2) 2 (nums .u8 [76, 36])) := ⟨by
      have h := own_lit (w8.setCell ⟨w.heap.size + 1, 0, none⟩ (.slice (some ⟨w8.heap.size, 0, none⟩) 2 2)) (w.heap.size + 2) 5 .u8 [76, 36] (by rw [World.size_setCell]; omega) (by decide)
      rw [World.size_setCell] at h
      exact h⟩
    clear hk9 B38 B48 HB8 q0 q1 q2 q3 q4 q5 q6 q7 qb zb hl1 hl0 hX hY
    generalize w8.heap.size = g8 at *
    generalize ((w8.setCell ⟨w.heap.size + 1, 0, none⟩ (.slice (some ⟨g8, 0, none⟩) 2 2)).alloc (.cells #[.int .u8 76, .int .u8 36] 5)) = w9 at *
    go_upto_region 22 with (first | (go_at_call 25; refine (number_calls (w.heap.size + 1) w.heap.size 1 (w.heap.size + 2) (.slice (some ⟨g8, 0, none⟩) 2 2) [76, 36] _ _ _ _ _ _ _ 8 w9 (by decide) (by decide) B49.out B39.out HO9.out (by omega) (by omega) (by omega) HS9.out).mono ?_; rintro e w10 ⟨⟨u, rfl⟩, v2, hb2, ho2, hk2⟩))
    rw [dispB1] at ho2
    obtain ⟨A2, c2, rfl⟩ := own_slice ho2
    have B2 := Aside0.mk hb2
    have O2 := Aside0.mk ho2
    have HB10 : Aside0 (Below w.heap.size w w10) := ⟨HB9.out.trans (hk2.below HB9.out.size (fun k hk h => by omega))⟩
    clear hb2 ho2 hk2
    obtain ⟨qb, zb⟩ := cell_of_block B2.out
    have hq : w.heap.size + 2 ≤ w10.heap.size := by have := blk_lt B2.out; omega
    go_wp2_with fail
    refine bodyPost_ret (results_put (blk_store B2.out _) rfl) rfl ⟨_, rfl, ?_, ?_⟩
    · exact R_of_own (own_weaken (own_setCell O2.out (p := ⟨w.heap.size + 1, 0, none⟩) (fun e => absurd (own_base O2.out _ e.symm) (Nat.not_le.2 (Nat.lt_succ_self _))) _) (by omega))
    · exact HB10.out.trans (Keeps.below ((Keeps.refl (fun k => k = w.heap.size + 1) w10).setCell ⟨w.heap.size + 1, 0, none⟩ _ rfl) (by omega) (fun k hk h => by omega))
end Go.Proofs.YtppeidopijnnlaaDoor.B
namespace Go.Proofs.YtppeidopijnnlaaDoor.B
open Go.RowKit Go.Proofs.YtppeidopijnnlaaDoorW.PrintWords Go.Proofs.YtppeidopijnnlaaDoorW.PrintMore Go.RF
set_option linter.unusedVariables false
set_option linter.unusedSimpArgs false
attribute [local go_sem] Oper.semAt_some
def lowF (r : Int) : Int := (Go.bits .and .i64 r 7) % 256
def highF (r : Int) : Int := (Go.bits .and .i64 (r / 8) 1) % 256
set_option maxHeartbeats 8000000 in
set_option maxRecDepth 100000 in
theorem putG_reg (reg k R base idx sc dp im : Int) (rip : Bool) (w : World) (hreg : 0 ≤ reg ∧ reg ≤ 15) (hright : operand_Right.f 2 k R base idx sc dp rip im = some true) (hk : k = 1) :
    Calls Tryd.prog 9 #[.int .i64 reg, .agg #[.int .u8 k, .int .i64 R, .int .i64 base, .int .i64 idx, .int .i64 sc, .int .i64 dp, .bool rip, .int .i64 im]] w fun e w' => ∃ v0_ : Value, e = .returned (.tuple #[v0_, .int .u8 (Go.bits .or .u8 (highF reg * 4 % 256) (highF R)), .int .i64 0]) ∧ Kd.R (Kd.int .u8) 5 w' w.heap.size (fun _ => True) v0_ [Go.bits .or .u8 (Go.bits .or .u8 192 (lowF reg * 8 % 256)) (lowF R)] ∧ Below w.heap.size w w' := by
  have hu23 := Tryd.underlying23
  have HRT := Aside0.mk hright
  have HK := Aside0.mk hk
  clear hright hk
  have e1 : decide (reg < 0) = false := decide_eq_false (by omega)
  have e2 : decide (15 < reg) = false := decide_eq_false (by omega)
  go_enter Tryd.func9, Tryd.ntmps9
  go_upto_region 1 with (fail)
  have b3 := World.alloc_heap_new w (.cells #[.int .u8 k, .int .i64 R, .int .i64 base, .int .i64 idx, .int .i64 sc, .int .i64 dp, .bool rip, .int .i64 im] 23)
  have b4 := World.alloc_heap_new (w.alloc (.cells #[.int .u8 k, .int .i64 R, .int .i64 base, .int .i64 idx, .int .i64 sc, .int .i64 dp, .bool rip, .int .i64 im] 23)) (.cells #[.slice none 0 0] 24)
  rw [World.size_alloc] at b4
  have b3' := (Below.heap_alloc (w.alloc (.cells #[.int .u8 k, .int .i64 R, .int .i64 base, .int .i64 idx, .int .i64 sc, .int .i64 dp, .bool rip, .int .i64 im] 23)) (.cells #[.slice none 0 0] 24) _ (Array.getElem?_eq_some_iff.1 b3).1).trans b3
  have hbl : Below w.heap.size w ((w.alloc (.cells #[.int .u8 k, .int .i64 R, .int .i64 base, .int .i64 idx, .int .i64 sc, .int .i64 dp, .bool rip, .int .i64 im] 23)).alloc (.cells #[.slice none 0 0] 24)) := bX_ (bX_ (Below.refl _ _) _) _
  have B3 := Aside0.mk b3'
  have B4 := Aside0.mk b4
  have HB := Aside0.mk hbl
  clear b3 b4 b3' hbl
  generalize (w.alloc (.cells #[.int .u8 k, .int .i64 R, .int .i64 base, .int .i64 idx, .int .i64 sc, .int .i64 dp, .bool rip, .int .i64 im] 23)).alloc (.cells #[.slice none 0 0] 24) = w1 at *
  obtain ⟨⟨q0, q1, q2, q3, q4, q5, q6, q7⟩, -⟩ := rows8 B3.out
  go_upto_region 3 with (first | (go_at_call 15; refine (operand_Right.calls 2 k R base idx sc dp rip im true w1 HRT.out).mono ?_; rintro e w2 ⟨rfl, hb2⟩))
  have B32 := Aside0.mk (blk_below B3.out hb2)
  have B42 := Aside0.mk (blk_below B4.out hb2)
  have HB2 := Aside0.mk (HB.out.trans (hb2.mono HB.out.size))
  clear B3 B4 HB hb2 q0 q1 q2 q3 q4 q5 q6 q7 e1 e2
  obtain ⟨fl, hfl⟩ : ∃ x, lowF reg = x := ⟨_, rfl⟩
  obtain ⟨fh, hfh⟩ : ∃ x, highF reg = x := ⟨_, rfl⟩
  have HLO : Aside0 (operand_low.f reg = some fl) := ⟨by rw [← hfl]; rfl⟩
  have HHI : Aside0 (operand_high.f reg = some fh) := ⟨by rw [← hfh]; rfl⟩
  go_upto_region 4 with (first | (go_at_call 23; refine (operand_low.calls reg fl w2 HLO.out).mono ?_; rintro e w3 ⟨rfl, n3, rfl⟩))
  go_upto_region 5 with (first | (go_at_call 24; refine (operand_high.calls reg fh _ HHI.out).mono ?_; rintro e w4 ⟨rfl, n4, rfl⟩))
  have B35 : Aside0 ((w2.drewN (n3 + n4)).heap[w.heap.size]? = some (.cells #[.int .u8 k, .int .i64 R, .int .i64 base, .int .i64 idx, .int .i64 sc, .int .i64 dp, .bool rip, .int .i64 im] 23)) := ⟨B32.out⟩
  have B45 : Aside0 ((w2.drewN (n3 + n4)).heap[w.heap.size + 1]? = some (.cells #[.slice none 0 0] 24)) := ⟨B42.out⟩
  have HB5 : Aside0 (Below w.heap.size w (w2.drewN (n3 + n4))) := ⟨HB2.out.trans ⟨rfl, rfl, rfl, Nat.le_refl _, fun _ _ => rfl⟩⟩
  clear B32 B42 HB2
  generalize w2.drewN (n3 + n4) = w5 at *
  obtain ⟨⟨q0, q1, q2, q3, q4, q5, q6, q7⟩, -⟩ := rows8 B35.out
  obtain ⟨qb, zb⟩ := cell_of_block B45.out
  have hl1 : w.heap.size + 1 < w5.heap.size := blk_lt B45.out
  have hl0 : w.heap.size < w5.heap.size := blk_lt B35.out
  have ek : (k == 1) = true := beq_iff_eq.mpr HK.out
  obtain ⟨gl, hgl⟩ : ∃ x, lowF R = x := ⟨_, rfl⟩
  obtain ⟨gh, hgh⟩ : ∃ x, highF R = x := ⟨_, rfl⟩
  have HL2 : Aside0 (operand_low.f R = some gl) := ⟨by rw [← hgl]; rfl⟩
  have HH2 : Aside0 (operand_high.f R = some gh) := ⟨by rw [← hgh]; rfl⟩
  have HE := Aside0.mk (And.intro hfl (And.intro hfh (And.intro hgl hgh)))
  clear hfl hfh hgl hgh HRT HLO HHI
  obtain ⟨fx, hfx⟩ : ∃ x, fl * 8 % 256 = x := ⟨_, rfl⟩
  obtain ⟨rx, hrx⟩ : ∃ x, fh * 4 % 256 = x := ⟨_, rfl⟩
  rw [hfx, hrx]
  have HX := Aside0.mk (And.intro hfx hrx)
  clear hfx hrx
  go_upto_region 7 with (fail)
  have QA : ∀ o, (w5.alloc o).cell? ⟨w.heap.size, 1, none⟩ = some (.int .i64 R) := fun o => (World.cell?_alloc_some _ _ _ (by rw [q1]; rfl)).trans q1
  have QB : ∀ o, (w5.alloc o).cell? ⟨w.heap.size + 1, 0, none⟩ = some (.slice none 0 0) := fun o => (World.cell?_alloc_some _ _ _ (by rw [qb]; rfl)).trans qb
  have ZB : ∀ o, (w5.alloc o).frozen? ⟨w.heap.size + 1, 0, none⟩ = false := fun o => (World.frozen?_alloc_past o _ 0 hl1).trans zb
  have ZN : ∀ n o, ((w5.drewN n).alloc o).frozen? ⟨w.heap.size + 1, 0, none⟩ = false := fun n o => (World.frozen?_alloc_past o _ 0 (show w.heap.size + 1 < (w5.drewN n).heap.size from hl1)).trans zb
  have QN : ∀ n o, ((w5.drewN n).alloc o).cell? ⟨w.heap.size + 1, 0, none⟩ = some (.slice none 0 0) := fun n o => (World.cell?_alloc_some (w5.drewN n) _ _ (show (w5.cell? ⟨w.heap.size + 1, 0, none⟩).isSome = true by rw [qb]; rfl)).trans qb
  have qbs : (w5.cell? ⟨w.heap.size + 1, 0, none⟩).isSome = true := by rw [qb]; rfl
  clear q0 q2 q3 q4 q5 q6 q7 hreg QA QB ZB
  go_region_held3 (fun w' => w'.cell? ⟨w.heap.size, 1, none⟩ = some (.int .i64 R)) (first | go_keep | (simp [*, World.cell?_alloc_some, World.cell?_setCell_far, World.frozen?_alloc_past]; done) | (simp [*, World.cell?_alloc_some, World.cell?_setCell_far, World.frozen?_alloc_past]; omega)) (first | (go_at_call 23; refine (operand_low.calls R gl _ HL2.out).mono ?_; rintro e w7 ⟨rfl, n7, rfl⟩) | (go_at_call 24; refine (operand_high.calls R gh _ HH2.out).mono ?_; rintro e w8 ⟨rfl, n8, rfl⟩))
  all_goals go_wp2_with fail
  all_goals obtain ⟨rfl, rfl⟩ := HX.out
  all_goals obtain ⟨rfl, rfl, rfl, rfl⟩ := HE.out
  all_goals have HOW : ∀ m, ((w5.drewN m).alloc (.cells #[.int .u8 (Go.bits .or .u8 (Go.bits .or .u8 192 (lowF reg * 8 % 256)) (lowF R))] 5)).ownsRow w.heap.size 5 1 (.slice (some ⟨w5.heap.size, 0, none⟩) 1 1) 1 (nums .u8 [(Go.bits .or .u8 (Go.bits .or .u8 192 (lowF reg * 8 % 256)) (lowF R))]) := fun m => own_lit (w5.drewN m) w.heap.size 5 .u8 [(Go.bits .or .u8 (Go.bits .or .u8 192 (lowF reg * 8 % 256)) (lowF R))] (Nat.le_of_lt hl0) (show 1 ≤ 9223372036854775807 by decide)
  all_goals refine bodyPost_ret (results_put (b := w.heap.size + 1) (blk_store (v := .slice none 0 0) ?_ _) rfl) rfl ⟨_, rfl, ?_, ?_⟩
  all_goals first
    | exact (Below.heap_alloc (w5.drewN _) _ _ hl1).trans B45.out
    | exact R_of_own (own_setCell (HOW _) (p := ⟨w.heap.size + 1, 0, none⟩) (fun e => absurd (Option.some.inj e) (Nat.ne_of_lt hl1)) _)
    | exact R_of_own (own_setCell (own_move (HOW _) (fun k hk => rfl)) (p := ⟨w.heap.size + 1, 0, none⟩) (fun e => absurd (Option.some.inj e) (Nat.ne_of_lt hl1)) _)
    | exact HB5.out.trans (Keeps.below (S := fun k => k = w.heap.size + 1) (((((Keeps.refl _ w5).drewN _).alloc _).drewN _).setCell ⟨w.heap.size + 1, 0, none⟩ _ rfl) (Nat.le_of_lt hl0) (fun k hk h => by omega))
    | exact HB5.out.trans (Keeps.below (S := fun k => k = w.heap.size + 1) ((((Keeps.refl _ w5).drewN _).alloc _).setCell ⟨w.heap.size + 1, 0, none⟩ _ rfl) (Nat.le_of_lt hl0) (fun k hk h => by omega))
end Go.Proofs.YtppeidopijnnlaaDoor.B
namespace Go.Proofs.YtppeidopijnnlaaDoor.B
open Go.RowKit Go.Proofs.YtppeidopijnnlaaDoorW.PrintWords Go.Proofs.YtppeidopijnnlaaDoorW.PrintMore Go.RF
set_option linter.unusedVariables false
set_option linter.unusedSimpArgs false
attribute [local go_sem] Oper.semAt_some
set_option maxHeartbeats 8000000 in
set_option maxRecDepth 100000 in
theorem putG_rip (reg k R base idx sc dp im : Int) (w : World) (hreg : 0 ≤ reg ∧ reg ≤ 15) (hright : operand_Right.f 2 k R base idx sc dp true im = some true) (hk : k ≠ 1) :
    Calls Tryd.prog 9 #[.int .i64 reg, .agg #[.int .u8 k, .int .i64 R, .int .i64 base, .int .i64 idx, .int .i64 sc, .int .i64 dp, .bool true, .int .i64 im]] w fun e w' => ∃ v0_ : Value, e = .returned (.tuple #[v0_, .int .u8 (highF reg * 4 % 256), .int .i64 0]) ∧ Kd.R (Kd.int .u8) 5 w' w.heap.size (fun _ => True) v0_ ([Go.bits .or .u8 (lowF reg * 8 % 256) 5] ++ dispB dp 4) ∧ Below w.heap.size w w' := by
  have hu23 := Tryd.underlying23
  have HRT := Aside0.mk hright
  have HK := Aside0.mk hk
  clear hright hk
  have e1 : decide (reg < 0) = false := decide_eq_false (by omega)
  have e2 : decide (15 < reg) = false := decide_eq_false (by omega)
  go_enter Tryd.func9, Tryd.ntmps9
  go_upto_region 1 with (fail)
  have b3 := World.alloc_heap_new w (.cells #[.int .u8 k, .int .i64 R, .int .i64 base, .int .i64 idx, .int .i64 sc, .int .i64 dp, .bool true, .int .i64 im] 23)
  have b4 := World.alloc_heap_new (w.alloc (.cells #[.int .u8 k, .int .i64 R, .int .i64 base, .int .i64 idx, .int .i64 sc, .int .i64 dp, .bool true, .int .i64 im] 23)) (.cells #[.slice none 0 0] 24)
  rw [World.size_alloc] at b4
  have b3' := (Below.heap_alloc (w.alloc (.cells #[.int .u8 k, .int .i64 R, .int .i64 base, .int .i64 idx, .int .i64 sc, .int .i64 dp, .bool true, .int .i64 im] 23)) (.cells #[.slice none 0 0] 24) _ (Array.getElem?_eq_some_iff.1 b3).1).trans b3
  have hbl : Below w.heap.size w ((w.alloc (.cells #[.int .u8 k, .int .i64 R, .int .i64 base, .int .i64 idx, .int .i64 sc, .int .i64 dp, .bool true, .int .i64 im] 23)).alloc (.cells #[.slice none 0 0] 24)) := bX_ (bX_ (Below.refl _ _) _) _
  have B3 := Aside0.mk b3'
  have B4 := Aside0.mk b4
  have HB := Aside0.mk hbl
  clear b3 b4 b3' hbl
  generalize (w.alloc (.cells #[.int .u8 k, .int .i64 R, .int .i64 base, .int .i64 idx, .int .i64 sc, .int .i64 dp, .bool true, .int .i64 im] 23)).alloc (.cells #[.slice none 0 0] 24) = w1 at *
  obtain ⟨⟨q0, q1, q2, q3, q4, q5, q6, q7⟩, -⟩ := rows8 B3.out
  go_upto_region 3 with (first | (go_at_call 15; refine (operand_Right.calls 2 k R base idx sc dp true im true w1 HRT.out).mono ?_; rintro e w2 ⟨rfl, hb2⟩))
  have B32 := Aside0.mk (blk_below B3.out hb2)
  have B42 := Aside0.mk (blk_below B4.out hb2)
  have HB2 := Aside0.mk (HB.out.trans (hb2.mono HB.out.size))
  clear B3 B4 HB hb2 q0 q1 q2 q3 q4 q5 q6 q7 e1 e2
  obtain ⟨fl, hfl⟩ : ∃ x, lowF reg = x := ⟨_, rfl⟩
  obtain ⟨fh, hfh⟩ : ∃ x, highF reg = x := ⟨_, rfl⟩
  have HLO : Aside0 (operand_low.f reg = some fl) := ⟨by rw [← hfl]; rfl⟩
  have HHI : Aside0 (operand_high.f reg = some fh) := ⟨by rw [← hfh]; rfl⟩
  go_upto_region 4 with (first | (go_at_call 23; refine (operand_low.calls reg fl w2 HLO.out).mono ?_; rintro e w3 ⟨rfl, n3, rfl⟩))
  go_upto_region 5 with (first | (go_at_call 24; refine (operand_high.calls reg fh _ HHI.out).mono ?_; rintro e w4 ⟨rfl, n4, rfl⟩))
  have B35 : Aside0 ((w2.drewN (n3 + n4)).heap[w.heap.size]? = some (.cells #[.int .u8 k, .int .i64 R, .int .i64 base, .int .i64 idx, .int .i64 sc, .int .i64 dp, .bool true, .int .i64 im] 23)) := ⟨B32.out⟩
  have B45 : Aside0 ((w2.drewN (n3 + n4)).heap[w.heap.size + 1]? = some (.cells #[.slice none 0 0] 24)) := ⟨B42.out⟩
  have HB5 : Aside0 (Below w.heap.size w (w2.drewN (n3 + n4))) := ⟨HB2.out.trans ⟨rfl, rfl, rfl, Nat.le_refl _, fun _ _ => rfl⟩⟩
  clear B32 B42 HB2
  generalize w2.drewN (n3 + n4) = w5 at *
  obtain ⟨⟨q0, q1, q2, q3, q4, q5, q6, q7⟩, -⟩ := rows8 B35.out
  obtain ⟨qb, zb⟩ := cell_of_block B45.out
  have hl1 : w.heap.size + 1 < w5.heap.size := blk_lt B45.out
  have hl0 : w.heap.size < w5.heap.size := blk_lt B35.out
  have ek : (k == 1) = false := beq_eq_false_iff_ne.mpr HK.out
  have HE := Aside0.mk (And.intro hfl hfh)
  clear hfl hfh HRT HLO HHI hreg
  obtain ⟨fx, hfx⟩ : ∃ x, fl * 8 % 256 = x := ⟨_, rfl⟩
  obtain ⟨rx, hrx⟩ : ∃ x, fh * 4 % 256 = x := ⟨_, rfl⟩
  rw [hfx, hrx]
  have HX := Aside0.mk (And.intro hfx hrx)
  clear hfx hrx
  go_upto_region 10 with (fail)
  have hk9 : Keeps (fun k => k = w.heap.size + 1) w5 ((w5.setCell ⟨w.heap.size + 1, 0, none⟩ (.slice (some ⟨w5.heap.size, 0, none⟩) 1 1)).alloc (.cells #[.int .u8 (Go.bits .or .u8 fx 5)] 5)) := ((Keeps.refl (fun k => k = w.heap.size + 1) w5).setCell ⟨w.heap.size + 1, 0, none⟩ _ rfl).alloc _
  have B39 : Aside0 (((w5.setCell ⟨w.heap.size + 1, 0, none⟩ (.slice (some ⟨w5.heap.size, 0, none⟩) 1 1)).alloc (.cells #[.int .u8 (Go.bits .or .u8 fx 5)] 5)).heap[w.heap.size]? = some (.cells #[.int .u8 k, .int .i64 R, .int .i64 base, .int .i64 idx, .int .i64 sc, .int .i64 dp, .bool true, .int .i64 im] 23)) := ⟨hk9.at_ B35.out (by omega)⟩
  have B49 : Aside0 (((w5.setCell ⟨w.heap.size + 1, 0, none⟩ (.slice (some ⟨w5.heap.size, 0, none⟩) 1 1)).alloc (.cells #[.int .u8 (Go.bits .or .u8 fx 5)] 5)).heap[w.heap.size + 1]? = some (.cells #[.slice (some ⟨w5.heap.size, 0, none⟩) 1 1] 24)) := ⟨(Below.heap_alloc _ _ _ (by show _ < (w5.setCell _ _).heap.size; rw [World.size_setCell]; exact hl1)).trans (blk_store B45.out _)⟩
  have HB9 : Aside0 (Below w.heap.size w ((w5.setCell ⟨w.heap.size + 1, 0, none⟩ (.slice (some ⟨w5.heap.size, 0, none⟩) 1 1)).alloc (.cells #[.int .u8 (Go.bits .or .u8 fx 5)] 5))) := ⟨HB5.out.trans (hk9.below (by omega) (fun k hk h => by omega))⟩
  have HS9 : Aside0 (w.heap.size + 2 ≤ ((w5.setCell ⟨w.heap.size + 1, 0, none⟩ (.slice (some ⟨w5.heap.size, 0, none⟩) 1 1)).alloc (.cells #[.int .u8 (Go.bits .or .u8 fx 5)] 5)).heap.size) := ⟨by rw [World.size_alloc, World.size_setCell]; omega⟩
  have HO9 : Aside0 (((w5.setCell ⟨w.heap.size + 1, 0, none⟩ (.slice (some ⟨w5.heap.size, 0, none⟩) 1 1)).alloc (.cells #[.int .u8 (Go.bits .or .u8 fx 5)] 5)).ownsRow (w.heap.size + 2) 5 1 (.slice (some ⟨w5.heap.size, 0, none⟩) 1 1) 1 (nums .u8 [Go.bits .or .u8 fx 5])) := ⟨by
    have h := own_lit (w5.setCell ⟨w.heap.size + 1, 0, none⟩ (.slice (some ⟨w5.heap.size, 0, none⟩) 1 1)) (w.heap.size + 2) 5 .u8 [Go.bits .or .u8 fx 5] (by rw [World.size_setCell]; omega) (show 1 ≤ 9223372036854775807 by decide)
    rw [World.size_setCell] at h
    exact h⟩
  clear hk9 B35 B45 HB5 q0 q1 q2 q3 q4 q5 q6 q7 qb zb hl1 hl0
  generalize w5.heap.size = g8 at *
  generalize ((w5.setCell ⟨w.heap.size + 1, 0, none⟩ (.slice (some ⟨g8, 0, none⟩) 1 1)).alloc (.cells #[.int .u8 (Go.bits .or .u8 fx 5)] 5)) = w9 at *
  go_upto_region 11 with (first | (go_at_call 25; refine (number_calls (w.heap.size + 1) w.heap.size 4 (w.heap.size + 2) (.slice (some ⟨g8, 0, none⟩) 1 1) [Go.bits .or .u8 fx 5] _ _ _ _ _ _ _ dp w9 (by decide) (show 1 ≤ 100 by decide) B49.out B39.out HO9.out (by omega) (by omega) (by omega) HS9.out).mono ?_; rintro e w10 ⟨⟨u, rfl⟩, v2, hb2, ho2, hk2⟩))
  obtain ⟨A2, c2, rfl⟩ := own_slice ho2
  have B2 := Aside0.mk hb2
  have O2 := Aside0.mk ho2
  have HB10 : Aside0 (Below w.heap.size w w10) := ⟨HB9.out.trans (hk2.below HB9.out.size (fun k hk h => by omega))⟩
  clear hb2 ho2 hk2
  obtain ⟨qb, zb⟩ := cell_of_block B2.out
  have hq : w.heap.size + 2 ≤ w10.heap.size := by have := blk_lt B2.out; omega
  go_wp2_with fail
  obtain ⟨rfl, rfl⟩ := HX.out
  obtain ⟨rfl, rfl⟩ := HE.out
  refine bodyPost_ret (results_put (blk_store B2.out _) rfl) rfl ⟨_, rfl, ?_, ?_⟩
  · exact R_of_own (own_weaken (own_setCell O2.out (p := ⟨w.heap.size + 1, 0, none⟩) (fun e => absurd (own_base O2.out _ e.symm) (Nat.not_le.2 (Nat.lt_succ_self _))) _) (Nat.le_add_right _ _))
  · exact HB10.out.trans (Keeps.below ((Keeps.refl (fun k => k = w.heap.size + 1) w10).setCell ⟨w.heap.size + 1, 0, none⟩ _ rfl) (Nat.le_trans (Nat.le_add_right _ 2) hq) (fun k hk h => by omega))
end Go.Proofs.YtppeidopijnnlaaDoor.B
