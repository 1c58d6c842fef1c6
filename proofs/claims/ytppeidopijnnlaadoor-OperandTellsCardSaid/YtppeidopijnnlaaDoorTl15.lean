/- Words and walks that were printed. -/
import Derived.Test.YtppeidopijnnlaaDoorTl10
import Derived.Test.YtppeidopijnnlaaDoorTl11
import Derived.Test.YtppeidopijnnlaaDoorTl14
namespace Go.Proofs.YtppeidopijnnlaaDoor.C
open Go.RowKit Go.Proofs.YtppeidopijnnlaaDoorW.PrintWords Go.Proofs.YtppeidopijnnlaaDoorW.PrintLast Go.Proofs.YtppeidopijnnlaaDoorW.PrintMore
attribute [local go_sem] max2_int min2_int max_two min_two max_three min_three max_four min_four   -- for this text's walks alone
set_option linter.unusedVariables false
set_option linter.unusedSimpArgs false
mutual
noncomputable def r8_Put.j0 : Nat → Int → Bool → Int → Int → Int → Int → Int → Int → Bool → Int → Option (List Int × Int × Int)
  | 0, _, _, _, _, _, _, _, _, _, _ => none
  | k + 1, x0, x24, x208000, x208001, x208002, x208003, x208004, x208005, x208006, x208007 => if x24 = true then (some (([] : List Int), 0, 2)) else (if x208000 = 1 then (some ((([Go.bits .or .u8 (Go.bits .or .u8 192 ((((Go.bits .and .i64 x0 7) % 256) * 8) % 256)) ((Go.bits .and .i64 x208001 7) % 256)] : List Int)), Go.bits .or .u8 ((((x0 / 8) % 256) * 4) % 256) ((x208001 / 8) % 256), 0)) else (if x208006 = true then ((some (([Go.bits .or .u8 ((((Go.bits .and .i64 x0 7) % 256) * 8) % 256) 5] : List Int) : List Int)).bind fun y212 => ((r8_shown.f k x208005 4).bind fun t215 => (if y212.length + t215.length < 140737488355328 then (some ((y212 ++ t215), (((x0 / 8) % 256) * 4) % 256, 0)) else (none)))) else (if x208002 < 0 then (r8_Put.j2 k ((((Go.bits .and .i64 x0 7) % 256) * 8) % 256) ((((x0 / 8) % 256) * 4) % 256) 0 4 x208000 x208001 x208002 x208003 x208004 x208005 x208006 x208007) else (if x208005 = 0 then (r8_Put.j1 k ((((Go.bits .and .i64 x0 7) % 256) * 8) % 256) ((((x0 / 8) % 256) * 4) % 256) 2 4 ((Go.bits .and .i64 x208002 7) != 5) x208000 x208001 x208002 x208003 x208004 x208005 x208006 x208007) else (r8_Put.j1 k ((((Go.bits .and .i64 x0 7) % 256) * 8) % 256) ((((x0 / 8) % 256) * 4) % 256) 2 4 false x208000 x208001 x208002 x208003 x208004 x208005 x208006 x208007)))))
noncomputable def r8_Put.j2 : Nat → Int → Int → Int → Int → Int → Int → Int → Int → Int → Int → Bool → Int → Option (List Int × Int × Int)
  | 0, _, _, _, _, _, _, _, _, _, _, _, _ => none
  | k + 1, x7, x8, x9, x10, x208000, x208001, x208002, x208003, x208004, x208005, x208006, x208007 => if x208002 ≥ 0 then (r8_Put.j3 k x7 (Go.bits .or .u8 x8 ((x208002 / 8) % 256)) x9 x10 ((Go.bits .and .i64 x208002 7) % 256) 4 0 x208000 x208001 x208002 x208003 x208004 x208005 x208006 x208007) else (r8_Put.j3 k x7 x8 x9 x10 5 4 0 x208000 x208001 x208002 x208003 x208004 x208005 x208006 x208007)
noncomputable def r8_Put.j3 : Nat → Int → Int → Int → Int → Int → Int → Int → Int → Int → Int → Int → Int → Int → Bool → Int → Option (List Int × Int × Int)
  | 0, _, _, _, _, _, _, _, _, _, _, _, _, _, _, _ => none
  | k + 1, x7, x8, x9, x10, x11, x12, x13, x208000, x208001, x208002, x208003, x208004, x208005, x208006, x208007 => if x208003 ≥ 0 then (r8_Put.l0 k x7 (Go.bits .or .u8 x8 ((((x208003 / 8) % 256) * 2) % 256)) x9 x10 x11 ((Go.bits .and .i64 x208003 7) % 256) x13 x208000 x208001 x208002 x208003 x208004 x208005 x208006 x208007) else (r8_Put.j5 k x7 x8 x9 x10 x11 x12 x13 x208000 x208001 x208002 x208003 x208004 x208005 x208006 x208007)
noncomputable def r8_Put.j5 : Nat → Int → Int → Int → Int → Int → Int → Int → Int → Int → Int → Int → Int → Int → Bool → Int → Option (List Int × Int × Int)
  | 0, _, _, _, _, _, _, _, _, _, _, _, _, _, _, _ => none
  | k + 1, x7, x8, x9, x10, x11, x12, x13, x208000, x208001, x208002, x208003, x208004, x208005, x208006, x208007 => if x208003 < 0 then (if x208002 ≥ 0 then (r8_Put.j6 k x7 x8 x9 x10 x11 x12 x13 (x11 != 4) x208000 x208001 x208002 x208003 x208004 x208005 x208006 x208007) else (r8_Put.j6 k x7 x8 x9 x10 x11 x12 x13 false x208000 x208001 x208002 x208003 x208004 x208005 x208006 x208007)) else (r8_Put.j6 k x7 x8 x9 x10 x11 x12 x13 false x208000 x208001 x208002 x208003 x208004 x208005 x208006 x208007)
noncomputable def r8_Put.j6 : Nat → Int → Int → Int → Int → Int → Int → Int → Bool → Int → Int → Int → Int → Int → Int → Bool → Int → Option (List Int × Int × Int)
  | 0, _, _, _, _, _, _, _, _, _, _, _, _, _, _, _, _ => none
  | k + 1, x7, x8, x9, x10, x11, x12, x13, x129, x208000, x208001, x208002, x208003, x208004, x208005, x208006, x208007 => if x129 = true then ((some (([Go.bits .or .u8 (Go.bits .or .u8 ((x9 * 64) % 256) x7) x11] : List Int) : List Int)).bind fun y221 => ((r8_shown.f k x208005 x10).bind fun t224 => (if y221.length + t224.length < 140737488355328 then (some ((y221 ++ t224), x8, 0)) else (none)))) else ((some (([Go.bits .or .u8 (Go.bits .or .u8 ((x9 * 64) % 256) x7) 4, Go.bits .or .u8 (Go.bits .or .u8 ((x13 * 64) % 256) ((x12 * 8) % 256)) x11] : List Int) : List Int)).bind fun y230 => ((r8_shown.f k x208005 x10).bind fun t233 => (if y230.length + t233.length < 140737488355328 then (some ((y230 ++ t233), x8, 0)) else (none))))
noncomputable def r8_Put.l0 : Nat → Int → Int → Int → Int → Int → Int → Int → Int → Int → Int → Int → Int → Int → Bool → Int → Option (List Int × Int × Int)
  | 0, _, _, _, _, _, _, _, _, _, _, _, _, _, _, _ => none
  | k + 1, x7, x8, x9, x10, x11, x12, x13, x208000, x208001, x208002, x208003, x208004, x208005, x208006, x208007 => if 0 ≤ (IntKind.u64.wrap (x13)) then (if (shl .i64 1 (IntKind.u64.wrap (x13))) < x208004 then (r8_Put.l0 k x7 x8 x9 x10 x11 x12 ((x13 + 1) % 256) x208000 x208001 x208002 x208003 x208004 x208005 x208006 x208007) else (r8_Put.j5 k x7 x8 x9 x10 x11 x12 x13 x208000 x208001 x208002 x208003 x208004 x208005 x208006 x208007)) else (none)
noncomputable def r8_Put.j1 : Nat → Int → Int → Int → Int → Bool → Int → Int → Int → Int → Int → Int → Bool → Int → Option (List Int × Int × Int)
  | 0, _, _, _, _, _, _, _, _, _, _, _, _, _ => none
  | k + 1, x7, x8, x9, x10, x64, x208000, x208001, x208002, x208003, x208004, x208005, x208006, x208007 => if x64 = true then (r8_Put.j2 k x7 x8 0 0 x208000 x208001 x208002 x208003 x208004 x208005 x208006 x208007) else (if x208005 ≥ (-128) then (if x208005 < 128 then (r8_Put.j2 k x7 x8 1 1 x208000 x208001 x208002 x208003 x208004 x208005 x208006 x208007) else (r8_Put.j2 k x7 x8 x9 x10 x208000 x208001 x208002 x208003 x208004 x208005 x208006 x208007)) else (r8_Put.j2 k x7 x8 x9 x10 x208000 x208001 x208002 x208003 x208004 x208005 x208006 x208007))
end
noncomputable def r8_Put.f (k : Nat) (a0 : Int) (a1_0 : Int) (a1_1 : Int) (a1_2 : Int) (a1_3 : Int) (a1_4 : Int) (a1_5 : Int) (a1_6 : Bool) (a1_7 : Int) : Option (List Int × Int × Int) := if a0 < 0 then (r8_Put.j0 k a0 true a1_0 a1_1 a1_2 a1_3 a1_4 a1_5 a1_6 a1_7) else (if a0 > 15 then (r8_Put.j0 k a0 true a1_0 a1_1 a1_2 a1_3 a1_4 a1_5 a1_6 a1_7) else ((r8_Right.f k a1_0 a1_1 a1_2 a1_3 a1_4 a1_5 a1_6 a1_7).bind fun t208 => (r8_Put.j0 k a0 (!t208) a1_0 a1_1 a1_2 a1_3 a1_4 a1_5 a1_6 a1_7)))
noncomputable def r8_Put.T6 : Bool × List (List Nat × List Nat) := (true, [([], []), ([0], [0]), ([], []), ([2], [2]), ([3], [3]), ([4], [4]), ([1, 5], [1, 5]), ([6], [6]), ([], []), ([], []), ([9], [9]), ([10], [10]), ([11], [11]), ([8, 12], [8, 12]), ([7, 0, 1, 2, 3, 4, 5, 6, 7], [7]), ([13, 14, 0, 1, 2, 3, 4, 5, 6, 7, 8, 9, 10, 11, 12, 13, 14], [13]), ([15, 0, 1, 2, 3, 4, 5, 6, 7, 8, 9, 10, 11, 12, 13, 14, 15], [])])
noncomputable def r8_Put.B6 : List Nat := [0, 1, 0, 4, 12, 28, 63, 127, 0, 0, 512, 1536, 3584, 7936, 255, 32767, 65535]
theorem r8_Put.tab6 : rtab .any (opsOf Tryd.f13 6) = r8_Put.T6 := by kernel_rfl
theorem r8_Put.bits6 : waitsOk r8_Put.T6.2 r8_Put.B6 = true := by kernel_rfl
set_option maxHeartbeats 8000000 in
set_option maxRecDepth 100000 in
theorem r8_Put.calls (k : Nat) (a0 : Int) (a1_0 : Int) (a1_1 : Int) (a1_2 : Int) (a1_3 : Int) (a1_4 : Int) (a1_5 : Int) (a1_6 : Bool) (a1_7 : Int) (r1 : List Int) (r2 : Int) (r3 : Int) (w : World) (h : r8_Put.f k a0 a1_0 a1_1 a1_2 a1_3 a1_4 a1_5 a1_6 a1_7 = some (r1, r2, r3)) :
    Calls Tryd.prog 13 #[.int .i64 a0, .agg #[.int .u8 a1_0, .int .i64 a1_1, .int .i64 a1_2, .int .i64 a1_3, .int .i64 a1_4, .int .i64 a1_5, .bool a1_6, .int .i64 a1_7]] w fun e w' => ∃ v0_ : Value, e = .returned (.tuple #[v0_, .int .u8 r2, .int .i64 r3]) ∧ Kd.R (Kd.int .u8) 5 w' w.heap.size (fun _ => True) v0_ r1 ∧ Below w.heap.size w w' := by
  have hu23 := Tryd.underlying23
  have HB := Aside0.mk (Below.refl w.heap.size w)
  have H : (if a0 < 0 then (r8_Put.j0 k a0 true a1_0 a1_1 a1_2 a1_3 a1_4 a1_5 a1_6 a1_7) else (if a0 > 15 then (r8_Put.j0 k a0 true a1_0 a1_1 a1_2 a1_3 a1_4 a1_5 a1_6 a1_7) else ((r8_Right.f k a1_0 a1_1 a1_2 a1_3 a1_4 a1_5 a1_6 a1_7).bind fun t208 => (r8_Put.j0 k a0 (!t208) a1_0 a1_1 a1_2 a1_3 a1_4 a1_5 a1_6 a1_7)))) = some (r1, r2, r3) := h
  clear h
  have HC3 := Aside0.mk H
  clear H
  go_enter Tryd.func13, Tryd.ntmps13
  go_upto_region 1 with (first | ((with_reducible refine gate_dst (N := 3) rfl ?_); refine box_event ?hg (N := 3) ?hd (cs := #[.int .u8 a1_0, .int .i64 a1_1, .int .i64 a1_2, .int .i64 a1_3, .int .i64 a1_4, .int .i64 a1_5, .bool a1_6, .int .i64 a1_7]) (t := 23) ?hr ?_; (case hd => rfl); (case hg => rfl); (case hr => first | (go_simp; done) | (go_simp; rfl)); intro gb207 hg w4 hbox hb; have n0_ := Aside0.mk (below_step (by repeat (first | (with_reducible first | exact HB.out | apply bX_ | apply bW_ | apply bY_) | exact HB.out)) hb); have n1_ := Aside0.mk (hbox); have n2_ := Aside0.mk ((by rw [hg]; exact (below_size (by repeat (first | (with_reducible first | exact HB.out | apply bX_ | apply bW_ | apply bY_) | exact HB.out))) : w.heap.size ≤ gb207)); have n3_ := Aside0.mk ((by rw [hg]; exact (below_size (by repeat (first | (with_reducible first | exact HB.out | apply bX_ | apply bW_ | apply bY_) | exact HB.out))) : w.heap.size ≤ gb207)); clear HB; have HB := n0_; have BK207 := n1_; have GW207 := n2_; have GE207 := n3_; clear n0_ n1_ n2_ n3_; clear hb hbox hg))
  (try simp only [Act.put, List.setIfInBounds_toArray, List.set_cons_zero, List.set_cons_succ])
  go_cut [24] (fun v24 wc => ∃ (kq : Nat) (x24_2 : Bool), v24 = .bool x24_2 ∧ Aside0 (r8_Put.j0 kq a0 x24_2 a1_0 a1_1 a1_2 a1_3 a1_4 a1_5 a1_6 a1_7 = some (r1, r2, r3)) ∧ Aside0 (kq ≤ k) ∧ Aside0 (wc.heap[gb207]? = some (.cells #[.int .u8 a1_0, .int .i64 a1_1, .int .i64 a1_2, .int .i64 a1_3, .int .i64 a1_4, .int .i64 a1_5, .bool a1_6, .int .i64 a1_7] 23 (0, 0))) ∧ Aside0 (Below w.heap.size w wc))
  case first =>
    have H := HC3.out
    clear HC3
    by_cases c5 : a0 < 0
    · rw [if_pos c5] at H
      have c5b0 : decide (a0 < 0) = true := decide_eq_true c5
      clear c5
      (first | rw [c5b0] | (simp only [i64_w, i32_w]; rw [c5b0]) | skip)
      have H' := Aside0.mk H
      clear H
      go_wp2
      go_meet
      case rel => exact ⟨_, (true), (by first | rfl | (simp; done) | (simp [*]; done)), H', ⟨by first | omega | exact Nat.le_refl _⟩, ⟨by (with_reducible repeat (first | refine bN_ ?_ _ | refine bD_ ?_ | refine bA_ ?_ _)); exact BK207.out⟩, ⟨by repeat (first | (with_reducible first | exact HB.out | apply bX_ | apply bW_ | apply bY_ | refine bS_ ?_ GE207.out) | exact HB.out)⟩⟩
    · rw [if_neg c5] at H
      have c5b0 : decide (a0 < 0) = false := decide_eq_false c5
      clear c5
      (first | rw [c5b0] | (simp only [i64_w, i32_w]; rw [c5b0]) | skip)
      by_cases c6 : a0 > 15
      · rw [if_pos c6] at H
        have c6b0 : decide (15 < a0) = true := decide_eq_true c6
        clear c6
        have H' := Aside0.mk H
        clear H
        go_wp2
        go_meet
        case rel => exact ⟨_, (true), (by first | rfl | (simp; done) | (simp [*]; done)), H', ⟨by first | omega | exact Nat.le_refl _⟩, ⟨by (with_reducible repeat (first | refine bN_ ?_ _ | refine bD_ ?_ | refine bA_ ?_ _)); exact BK207.out⟩, ⟨by repeat (first | (with_reducible first | exact HB.out | apply bX_ | apply bW_ | apply bY_ | refine bS_ ?_ GE207.out) | exact HB.out)⟩⟩
      · rw [if_neg c6] at H
        have c6b0 : decide (15 < a0) = false := decide_eq_false c6
        clear c6
        replace H := Option.bind_eq_some_iff.mp H
        obtain ⟨t208, A70, H⟩ := H
        replace H : (r8_Put.j0 k a0 (!t208) a1_0 a1_1 a1_2 a1_3 a1_4 a1_5 a1_6 a1_7) = some (r1, r2, r3) := H
        have A7 := Aside0.mk A70
        clear A70
        have H' := Aside0.mk H
        clear H
        have hcz8_0 : w4.cell? ⟨gb207, 0, none⟩ = some (.int .u8 a1_0) := (bC_ BK207.out 0).trans rfl
        have hcz8_1 : w4.cell? ⟨gb207, 1, none⟩ = some (.int .i64 a1_1) := (bC_ BK207.out 1).trans rfl
        have hcz8_2 : w4.cell? ⟨gb207, 2, none⟩ = some (.int .i64 a1_2) := (bC_ BK207.out 2).trans rfl
        have hcz8_3 : w4.cell? ⟨gb207, 3, none⟩ = some (.int .i64 a1_3) := (bC_ BK207.out 3).trans rfl
        have hcz8_4 : w4.cell? ⟨gb207, 4, none⟩ = some (.int .i64 a1_4) := (bC_ BK207.out 4).trans rfl
        have hcz8_5 : w4.cell? ⟨gb207, 5, none⟩ = some (.int .i64 a1_5) := (bC_ BK207.out 5).trans rfl
        have hcz8_6 : w4.cell? ⟨gb207, 6, none⟩ = some (.bool a1_6) := (bC_ BK207.out 6).trans rfl
        have hcz8_7 : w4.cell? ⟨gb207, 7, none⟩ = some (.int .i64 a1_7) := (bC_ BK207.out 7).trans rfl
        have hfz8_0 := bF_ BK207.out 0
        have hfz8_1 := bF_ BK207.out 1
        have hfz8_2 := bF_ BK207.out 2
        have hfz8_3 := bF_ BK207.out 3
        have hfz8_4 := bF_ BK207.out 4
        have hfz8_5 := bF_ BK207.out 5
        have hfz8_6 := bF_ BK207.out 6
        have hfz8_7 := bF_ BK207.out 7
        go_wp2_with (first | (go_at_call 10; (with_reducible refine (r8_Right.calls k a1_0 a1_1 a1_2 a1_3 a1_4 a1_5 a1_6 a1_7 t208 _ A7.out).mono ?_); rintro e w9 ⟨rfl, hb⟩; have n0_ := Aside0.mk (blk_below (g := gb207) (o := .cells #[.int .u8 a1_0, .int .i64 a1_1, .int .i64 a1_2, .int .i64 a1_3, .int .i64 a1_4, .int .i64 a1_5, .bool a1_6, .int .i64 a1_7] 23 (0, 0)) (by (with_reducible repeat (first | refine bN_ ?_ _ | refine bD_ ?_ | refine bA_ ?_ _)); exact BK207.out) hb); have n1_ := Aside0.mk (below_step (by repeat (first | (with_reducible first | exact HB.out | apply bX_ | apply bW_ | apply bY_ | refine bS_ ?_ GE207.out) | exact HB.out)) hb); clear BK207; clear HB; have BK207 := n0_; have HB := n1_; clear n0_ n1_; (try clear hb); (try clear hb2); (try clear hk); (try clear hi)))
        go_meet
        case rel => exact ⟨_, (!t208), (by first | rfl | (simp; done) | (simp [*]; done)), H', ⟨by first | omega | exact Nat.le_refl _⟩, ⟨by (with_reducible repeat (first | refine bN_ ?_ _ | refine bD_ ?_ | refine bA_ ?_ _)); exact BK207.out⟩, ⟨by repeat (first | (with_reducible first | exact HB.out | apply bX_ | apply bW_ | apply bY_ | refine bS_ ?_ GE207.out) | exact HB.out)⟩⟩
  case rest =>
    clear HC3
    (try clear c1); (try clear p2); (try clear c5); (try clear c5b0); (try clear c6); (try clear c6b0)
    obtain ⟨kq, x24_2, rfl, HA, HJ2, BK207, HB⟩ := hcut
    cases kq with
    | zero => exact absurd HA.out (by simp [r8_Put.j0])
    | succ kj2 =>
      have H := HA.out
      clear HA
      simp only [r8_Put.j0] at H
      by_cases c10 : x24_2 = true
      · subst c10
        have H1 : (some (([] : List Int), 0, 2)) = some (r1, r2, r3) := by rw [if_pos rfl] at H; exact H
        clear H
        have H := H1
        clear H1
        simp only [Option.some.injEq, Prod.mk.injEq] at H
        obtain ⟨rfl, rfl, rfl⟩ := H
        go_wp2
        go_ret3
        exact ⟨_, by first | rfl | (simp [errW_none, errW_some] <;> rfl) | (simp [*, errW_none, errW_some] <;> rfl), by first | exact Kd.R_nil _ _ _ _ _ | exact Kd.N_nil _ _ _ _ _ | exact Kd.V_nil _ _ _ _ _ | exact Kd.Q_nil _ _ _ _ _ | exact Kd.S_nil _ _ _ _ _, by repeat (first | (with_reducible first | exact HB.out | apply bX_ | apply bW_ | apply bY_ | refine bS_ ?_ GE207.out) | exact HB.out)⟩
      · replace c10 := Bool.eq_false_iff.mpr c10
        subst c10
        have H1 : (if a1_0 = 1 then (some ((([Go.bits .or .u8 (Go.bits .or .u8 192 ((((Go.bits .and .i64 a0 7) % 256) * 8) % 256)) ((Go.bits .and .i64 a1_1 7) % 256)] : List Int)), Go.bits .or .u8 ((((a0 / 8) % 256) * 4) % 256) ((a1_1 / 8) % 256), 0)) else (if a1_6 = true then ((some (([Go.bits .or .u8 ((((Go.bits .and .i64 a0 7) % 256) * 8) % 256) 5] : List Int) : List Int)).bind fun y212 => ((r8_shown.f kj2 a1_5 4).bind fun t215 => (if y212.length + t215.length < 140737488355328 then (some ((y212 ++ t215), (((a0 / 8) % 256) * 4) % 256, 0)) else (none)))) else (if a1_2 < 0 then (r8_Put.j2 kj2 ((((Go.bits .and .i64 a0 7) % 256) * 8) % 256) ((((a0 / 8) % 256) * 4) % 256) 0 4 a1_0 a1_1 a1_2 a1_3 a1_4 a1_5 a1_6 a1_7) else (if a1_5 = 0 then (r8_Put.j1 kj2 ((((Go.bits .and .i64 a0 7) % 256) * 8) % 256) ((((a0 / 8) % 256) * 4) % 256) 2 4 ((Go.bits .and .i64 a1_2 7) != 5) a1_0 a1_1 a1_2 a1_3 a1_4 a1_5 a1_6 a1_7) else (r8_Put.j1 kj2 ((((Go.bits .and .i64 a0 7) % 256) * 8) % 256) ((((a0 / 8) % 256) * 4) % 256) 2 4 false a1_0 a1_1 a1_2 a1_3 a1_4 a1_5 a1_6 a1_7))))) = some (r1, r2, r3) := by rw [if_neg (show ¬ (false = true) by decide)] at H; exact H
        clear H
        have H := H1
        clear H1
        by_cases c11 : a1_0 = 1
        · rw [if_pos c11] at H
          have c11b0 : (a1_0 == 1) = true := beq_iff_eq.mpr c11
          have c11b1 : (a1_0 != 1) = false := bne_eq_false_iff_eq.mpr c11
          clear c11
          obtain ⟨y209, hy209⟩ : ∃ y_ : List Int, y_ = (([Go.bits .or .u8 (Go.bits .or .u8 192 ((((Go.bits .and .i64 a0 7) % 256) * 8) % 256)) ((Go.bits .and .i64 a1_1 7) % 256)] : List Int)) := ⟨_, rfl⟩
          replace H : (some (y209, Go.bits .or .u8 ((((a0 / 8) % 256) * 4) % 256) ((a1_1 / 8) % 256), 0)) = some (r1, r2, r3) := by first | (rw [hy209]; with_reducible exact H) | (have H2_ := (Option.bind_some _ _).symm.trans H; rw [hy209]; with_reducible exact H2_) | (have H2_ := (Option.bind_some _ _).symm.trans H; with_reducible exact H2_) | with_reducible exact H | (rw [hy209]; exact H) | exact H
          have Ny209 := Aside0.mk hy209
          clear hy209
          simp only [Option.some.injEq, Prod.mk.injEq] at H
          obtain ⟨rfl, rfl, rfl⟩ := H
          have hcz12_0 : wc.cell? ⟨gb207, 0, none⟩ = some (.int .u8 a1_0) := (bC_ BK207.out 0).trans rfl
          have hcz12_1 : wc.cell? ⟨gb207, 1, none⟩ = some (.int .i64 a1_1) := (bC_ BK207.out 1).trans rfl
          have hcz12_2 : wc.cell? ⟨gb207, 2, none⟩ = some (.int .i64 a1_2) := (bC_ BK207.out 2).trans rfl
          have hcz12_3 : wc.cell? ⟨gb207, 3, none⟩ = some (.int .i64 a1_3) := (bC_ BK207.out 3).trans rfl
          have hcz12_4 : wc.cell? ⟨gb207, 4, none⟩ = some (.int .i64 a1_4) := (bC_ BK207.out 4).trans rfl
          have hcz12_5 : wc.cell? ⟨gb207, 5, none⟩ = some (.int .i64 a1_5) := (bC_ BK207.out 5).trans rfl
          have hcz12_6 : wc.cell? ⟨gb207, 6, none⟩ = some (.bool a1_6) := (bC_ BK207.out 6).trans rfl
          have hcz12_7 : wc.cell? ⟨gb207, 7, none⟩ = some (.int .i64 a1_7) := (bC_ BK207.out 7).trans rfl
          have hfz12_0 := bF_ BK207.out 0
          have hfz12_1 := bF_ BK207.out 1
          have hfz12_2 := bF_ BK207.out 2
          have hfz12_3 := bF_ BK207.out 3
          have hfz12_4 := bF_ BK207.out 4
          have hfz12_5 := bF_ BK207.out 5
          have hfz12_6 := bF_ BK207.out 6
          have hfz12_7 := bF_ BK207.out 7
          try go_wp2
          have n0_ := Aside0.mk (bD_ BK207.out)
          have n1_ := Aside0.mk (bY_ HB.out)
          clear BK207
          clear HB
          have BK207 := n0_
          have HB := n1_
          clear n0_ n1_
          refine start_ (n := 17) (S := fun w' => w'.cell? ⟨gb207, 0, none⟩ = some (.int .u8 a1_0) ∧ w'.cell? ⟨gb207, 1, none⟩ = some (.int .i64 a1_1) ∧ w'.cell? ⟨gb207, 2, none⟩ = some (.int .i64 a1_2) ∧ w'.cell? ⟨gb207, 3, none⟩ = some (.int .i64 a1_3) ∧ w'.cell? ⟨gb207, 4, none⟩ = some (.int .i64 a1_4) ∧ w'.cell? ⟨gb207, 5, none⟩ = some (.int .i64 a1_5) ∧ w'.cell? ⟨gb207, 6, none⟩ = some (.bool a1_6) ∧ w'.cell? ⟨gb207, 7, none⟩ = some (.int .i64 a1_7)) (ds := []) #[false, false, false, false, false, false, false, false, false, false, false, false, false, false, false, false, false] (by kernel_rfl) rfl rfl ⟨(bC_ BK207.out 0).trans rfl, (bC_ BK207.out 1).trans rfl, (bC_ BK207.out 2).trans rfl, (bC_ BK207.out 3).trans rfl, (bC_ BK207.out 4).trans rfl, (bC_ BK207.out 5).trans rfl, (bC_ BK207.out 6).trans rfl, (bC_ BK207.out 7).trans rfl⟩ (fun hHeld => ?_); refine with_tabW r8_Put.tab6 r8_Put.bits6 (fun HT_ HW_ => ?_)
          generalize wc.drew = w13 at BK207 HB hHeld ⊢
          refine pure_ (i := 0) (N := some 36) (v := ?_) (a' := ?_) #[true, false, false, false, false, false, false, false, false, false, false, false, false, false, false, false, false] rfl rfl (any_of HT_.out (by kernel_rfl)) (fun _ _ _ h => h) (Or.inl ⟨by rfl, ?_⟩) ?_ ?_
          rotate_left
          · intro w'
            go_simp
            with_reducible rfl
          rotate_left
          · simp only [Act.put, List.setIfInBounds_toArray, List.set_cons_zero, List.set_cons_succ, i64_w, i32_w]
            rfl
          refine pure_ (i := 1) (N := some 37) (v := ?_) (a' := ?_) #[true, true, false, false, false, false, false, false, false, false, false, false, false, false, false, false, false] rfl rfl (any_of HT_.out (by kernel_rfl)) (fun _ _ _ h => h) (Or.inl ⟨by rfl, ?_⟩) ?_ ?_
          rotate_left
          · intro w'
            go_simp
            with_reducible rfl
          rotate_left
          · simp only [Act.put, List.setIfInBounds_toArray, List.set_cons_zero, List.set_cons_succ, i64_w, i32_w]
            rfl
          refine pure_ (i := 2) (N := some 38) (v := ?_) (a' := ?_) #[true, true, true, false, false, false, false, false, false, false, false, false, false, false, false, false, false] rfl rfl (any_of HT_.out (by kernel_rfl)) (fun _ _ _ h => h) (Or.inl ⟨by rfl, ?_⟩) ?_ ?_
          rotate_left
          · intro w'
            go_simp
            with_reducible rfl
          rotate_left
          · simp only [Act.put, List.setIfInBounds_toArray, List.set_cons_zero, List.set_cons_succ, i64_w, i32_w]
            rfl
          refine pure_ (i := 8) (N := some 44) (v := ?_) (a' := ?_) #[true, true, true, false, false, false, false, false, true, false, false, false, false, false, false, false, false] rfl rfl (any_of HT_.out (by kernel_rfl)) (fun _ _ _ h => h) (Or.inl ⟨by rfl, ?_⟩) ?_ ?_
          rotate_left
          · intro w'
            go_simp
            with_reducible rfl
          rotate_left
          · simp only [Act.put, List.setIfInBounds_toArray, List.set_cons_zero, List.set_cons_succ, i64_w, i32_w]
            rfl
          refine pure_ (i := 9) (N := some 45) (v := ?_) (a' := ?_) #[true, true, true, false, false, false, false, false, true, true, false, false, false, false, false, false, false] rfl rfl (any_of HT_.out (by kernel_rfl)) (fun _ _ _ h => h) (Or.inl ⟨by rfl, ?_⟩) ?_ ?_
          rotate_left
          · intro w'
            go_simp
            with_reducible rfl
          rotate_left
          · simp only [Act.put, List.setIfInBounds_toArray, List.set_cons_zero, List.set_cons_succ, i64_w, i32_w]
            rfl
          refine take_ (i := 3) (N := some 39) (v := ?_) (a' := ?_) #[true, true, true, true, false, false, false, false, true, true, false, false, false, false, false, false, false] rfl rfl (take_ofW HT_.out HW_.out (by kernel_rfl)) (fun _ _ _ h => h) (Or.inl ⟨by rfl, ?_⟩) hHeld ?_ ?_
          rotate_left
          · rintro w' ⟨s0, s1, s2, s3, s4, s5, s6, s7⟩
            go_simp
            with_reducible rfl
          rotate_left
          · simp only [Act.put, List.setIfInBounds_toArray, List.set_cons_zero, List.set_cons_succ, i64_w, i32_w]
            rfl
          refine pure_ (i := 4) (N := some 40) (v := ?_) (a' := ?_) #[true, true, true, true, true, false, false, false, true, true, false, false, false, false, false, false, false] rfl rfl (any_of HT_.out (by kernel_rfl)) (fun _ _ _ h => h) (Or.inl ⟨by rfl, ?_⟩) ?_ ?_
          rotate_left
          · intro w'
            go_simp
            with_reducible rfl
          rotate_left
          · simp only [Act.put, List.setIfInBounds_toArray, List.set_cons_zero, List.set_cons_succ, i64_w, i32_w]
            rfl
          refine pure_ (i := 5) (N := some 41) (v := ?_) (a' := ?_) #[true, true, true, true, true, true, false, false, true, true, false, false, false, false, false, false, false] rfl rfl (any_of HT_.out (by kernel_rfl)) (fun _ _ _ h => h) (Or.inl ⟨by rfl, ?_⟩) ?_ ?_
          rotate_left
          · intro w'
            go_simp
            with_reducible rfl
          rotate_left
          · simp only [Act.put, List.setIfInBounds_toArray, List.set_cons_zero, List.set_cons_succ, i64_w, i32_w]
            rfl
          refine pure_ (i := 6) (N := some 42) (v := ?_) (a' := ?_) #[true, true, true, true, true, true, true, false, true, true, false, false, false, false, false, false, false] rfl rfl (any_of HT_.out (by kernel_rfl)) (fun _ _ _ h => h) (Or.inl ⟨by rfl, ?_⟩) ?_ ?_
          rotate_left
          · intro w'
            go_simp
            with_reducible rfl
          rotate_left
          · simp only [Act.put, List.setIfInBounds_toArray, List.set_cons_zero, List.set_cons_succ, i64_w, i32_w]
            rfl
          refine take_ (i := 10) (N := some 46) (v := ?_) (a' := ?_) #[true, true, true, true, true, true, true, false, true, true, true, false, false, false, false, false, false] rfl rfl (take_ofW HT_.out HW_.out (by kernel_rfl)) (fun _ _ _ h => h) (Or.inl ⟨by rfl, ?_⟩) hHeld ?_ ?_
          rotate_left
          · rintro w' ⟨s0, s1, s2, s3, s4, s5, s6, s7⟩
            go_simp
            with_reducible rfl
          rotate_left
          · simp only [Act.put, List.setIfInBounds_toArray, List.set_cons_zero, List.set_cons_succ, i64_w, i32_w]
            rfl
          refine pure_ (i := 11) (N := some 47) (v := ?_) (a' := ?_) #[true, true, true, true, true, true, true, false, true, true, true, true, false, false, false, false, false] rfl rfl (any_of HT_.out (by kernel_rfl)) (fun _ _ _ h => h) (Or.inl ⟨by rfl, ?_⟩) ?_ ?_
          rotate_left
          · intro w'
            go_simp
            with_reducible rfl
          rotate_left
          · simp only [Act.put, List.setIfInBounds_toArray, List.set_cons_zero, List.set_cons_succ, i64_w, i32_w]
            rfl
          refine pure_ (i := 12) (N := some 48) (v := ?_) (a' := ?_) #[true, true, true, true, true, true, true, false, true, true, true, true, true, false, false, false, false] rfl rfl (any_of HT_.out (by kernel_rfl)) (fun _ _ _ h => h) (Or.inl ⟨by rfl, ?_⟩) ?_ ?_
          rotate_left
          · intro w'
            go_simp
            with_reducible rfl
          rotate_left
          · simp only [Act.put, List.setIfInBounds_toArray, List.set_cons_zero, List.set_cons_succ, i64_w, i32_w]
            rfl
          refine pure_ (i := 13) (N := some 49) (v := ?_) (a' := ?_) #[true, true, true, true, true, true, true, false, true, true, true, true, true, true, false, false, false] rfl rfl (any_of HT_.out (by kernel_rfl)) (fun _ _ _ h => h) (Or.inl ⟨by rfl, ?_⟩) ?_ ?_
          rotate_left
          · intro w'
            go_simp
            with_reducible rfl
          rotate_left
          · simp only [Act.put, List.setIfInBounds_toArray, List.set_cons_zero, List.set_cons_succ, i64_w, i32_w]
            rfl
          refine one_ (i := 7) (N := some 43) #[true, true, true, true, true, true, true, true, true, true, true, true, true, true, false, false, false] rfl rfl (one_of HT_.out (by kernel_rfl)) (by decide) (fun K hK => ?_)
          refine Kd.R_lit_step (Kd.int .u8) _ 5 ?hg (N := 43) ?hd (xs := ([Go.bits .or .u8 (Go.bits .or .u8 192 ((((Go.bits .and .i64 a0 7) % 256) * 8) % 256)) ((Go.bits .and .i64 a1_1 7) % 256)] : List Int)) (inner := [.int .u8 (Go.bits .or .u8 (Go.bits .or .u8 192 ((((Go.bits .and .i64 a0 7) % 256) * 8) % 256)) ((Go.bits .and .i64 a1_1 7) % 256))]) (ok := fun _ => True) (okp := fun _ => True) ?hr ?hp (fun _ hk => hk) trivial (Below.refl _ _) (Nat.le_refl _) (by simp) ?_; (case hd => rfl); (case hg => rfl); (case hr => first | (go_simp; done) | (go_simp; rfl)); (case hp => exact (Reps.one (show Kd.M (Kd.int .u8) _ _ _ (Go.bits .or .u8 (Go.bits .or .u8 192 ((((Go.bits .and .i64 a0 7) % 256) * 8) % 256)) ((Go.bits .and .i64 a1_1 7) % 256)) [.int .u8 (Go.bits .or .u8 (Go.bits .or .u8 192 ((((Go.bits .and .i64 a0 7) % 256) * 8) % 256)) ((Go.bits .and .i64 a1_1 7) % 256))] from rfl) (Reps.none _ _)))
          intro v210 w14 ho15 hb hg_ hnew_
          clear hg_ hnew_
          (first | rw [← Ny209.out] at ho15 | (simp only [Int.reduceToNat] at ho15; rw [← Ny209.out] at ho15))
          have n0_ := Aside0.mk (Kd.R_lower ho15 (below_size (by repeat (first | (with_reducible first | exact HB.out | apply bX_ | apply bW_ | apply bY_ | refine bS_ ?_ GE207.out) | exact HB.out))))
          have n1_ := Aside0.mk (blk_below (g := gb207) (o := .cells #[.int .u8 a1_0, .int .i64 a1_1, .int .i64 a1_2, .int .i64 a1_3, .int .i64 a1_4, .int .i64 a1_5, .bool a1_6, .int .i64 a1_7] 23 (0, 0)) (by (with_reducible repeat (first | refine bN_ ?_ _ | refine bD_ ?_ | refine bA_ ?_ _)); exact BK207.out) hb)
          have n2_ := Aside0.mk (below_step (by repeat (first | (with_reducible first | exact HB.out | apply bX_ | apply bW_ | apply bY_ | refine bS_ ?_ GE207.out) | exact HB.out)) hb)
          clear BK207
          clear HB
          have HO211 := n0_
          have BK207 := n1_
          have HB := n2_
          clear n0_ n1_ n2_
          clear hb ho15
          refine hK.out _ _ ⟨(bC_ BK207.out 0).trans rfl, (bC_ BK207.out 1).trans rfl, (bC_ BK207.out 2).trans rfl, (bC_ BK207.out 3).trans rfl, (bC_ BK207.out 4).trans rfl, (bC_ BK207.out 5).trans rfl, (bC_ BK207.out 6).trans rfl, (bC_ BK207.out 7).trans rfl⟩ (fun hHeld => ?_)
          clear hK K
          refine norm_ (a' := ?_) ?_ ?_
          rotate_left
          · show Act.put _ (some 43) _ = _
            simp only [Act.put, List.setIfInBounds_toArray, List.set_cons_zero, List.set_cons_succ, i64_w, i32_w]
            rfl
          refine pure_ (i := 14) (N := some 4) (v := ?_) (a' := ?_) #[true, true, true, true, true, true, true, true, true, true, true, true, true, true, true, false, false] rfl rfl (any_of HT_.out (by kernel_rfl)) (fun _ _ _ h => h) (Or.inl ⟨by rfl, ?_⟩) ?_ ?_
          rotate_left
          · intro w'
            go_simp
            with_reducible rfl
          rotate_left
          · simp only [Act.put, List.setIfInBounds_toArray, List.set_cons_zero, List.set_cons_succ, i64_w, i32_w]
            rfl
          refine pure_ (i := 15) (N := some 5) (v := ?_) (a' := ?_) #[true, true, true, true, true, true, true, true, true, true, true, true, true, true, true, true, false] rfl rfl (any_of HT_.out (by kernel_rfl)) (fun _ _ _ h => h) (Or.inl ⟨by rfl, ?_⟩) ?_ ?_
          rotate_left
          · intro w'
            go_simp
            with_reducible rfl
          rotate_left
          · simp only [Act.put, List.setIfInBounds_toArray, List.set_cons_zero, List.set_cons_succ, i64_w, i32_w]
            rfl
          refine pure_ (i := 16) (N := some 6) (v := ?_) (a' := ?_) #[true, true, true, true, true, true, true, true, true, true, true, true, true, true, true, true, true] rfl rfl (any_of HT_.out (by kernel_rfl)) (fun _ _ _ h => h) (Or.inl ⟨by rfl, ?_⟩) ?_ ?_
          rotate_left
          · intro w'
            go_simp
            with_reducible rfl
          rotate_left
          · simp only [Act.put, List.setIfInBounds_toArray, List.set_cons_zero, List.set_cons_succ, i64_w, i32_w]
            rfl
          refine done_ (done_of HT_.out (by kernel_rfl)) ?_
          try go_wp2
          go_ret3
          exact ⟨_, by first | rfl | (simp [errW_none, errW_some] <;> rfl) | (simp [*, errW_none, errW_some] <;> rfl), by (with_reducible repeat (first | apply Kd.R_alloc | apply Kd.R_drewN | apply Kd.R_drew)); exact HO211.out, by repeat (first | (with_reducible first | exact HB.out | apply bX_ | apply bW_ | apply bY_ | refine bS_ ?_ GE207.out) | exact HB.out)⟩
        · rw [if_neg c11] at H
          have c11b0 : (a1_0 == 1) = false := beq_eq_false_iff_ne.mpr c11
          have c11b1 : (a1_0 != 1) = true := bne_iff_ne.mpr c11
          by_cases c16 : a1_6 = true
          · subst c16
            have H1 : ((some (([Go.bits .or .u8 ((((Go.bits .and .i64 a0 7) % 256) * 8) % 256) 5] : List Int) : List Int)).bind fun y212 => ((r8_shown.f kj2 a1_5 4).bind fun t215 => (if y212.length + t215.length < 140737488355328 then (some ((y212 ++ t215), (((a0 / 8) % 256) * 4) % 256, 0)) else (none)))) = some (r1, r2, r3) := by rw [if_pos rfl] at H; exact H
            clear H
            have H := H1
            clear H1
            obtain ⟨y212, hy212⟩ : ∃ y_ : List Int, y_ = (([Go.bits .or .u8 ((((Go.bits .and .i64 a0 7) % 256) * 8) % 256) 5] : List Int)) := ⟨_, rfl⟩
            replace H : ((r8_shown.f kj2 a1_5 4).bind fun t215 => (if y212.length + t215.length < 140737488355328 then (some ((y212 ++ t215), (((a0 / 8) % 256) * 4) % 256, 0)) else (none))) = some (r1, r2, r3) := by first | (rw [hy212]; with_reducible exact H) | (have H2_ := (Option.bind_some _ _).symm.trans H; rw [hy212]; with_reducible exact H2_) | (have H2_ := (Option.bind_some _ _).symm.trans H; with_reducible exact H2_) | with_reducible exact H | (rw [hy212]; exact H) | exact H
            have Ny212 := Aside0.mk hy212
            clear hy212
            replace H := Option.bind_eq_some_iff.mp H
            obtain ⟨t215, A170, H⟩ := H
            replace H : (if y212.length + t215.length < 140737488355328 then (some ((y212 ++ t215), (((a0 / 8) % 256) * 4) % 256, 0)) else (none)) = some (r1, r2, r3) := H
            have A17 := Aside0.mk A170
            clear A170
            by_cases c18 : y212.length + t215.length < 140737488355328
            · rw [if_pos c18] at H
              have LMc18 := Aside0.mk c18
              clear c18
              obtain ⟨y218, hy218⟩ : ∃ y_ : List Int, y_ = (y212 ++ t215) := ⟨_, rfl⟩
              replace H : (some (y218, (((a0 / 8) % 256) * 4) % 256, 0)) = some (r1, r2, r3) := by first | (rw [hy218]; with_reducible exact H) | (have H2_ := (Option.bind_some _ _).symm.trans H; rw [hy218]; with_reducible exact H2_) | (have H2_ := (Option.bind_some _ _).symm.trans H; with_reducible exact H2_) | with_reducible exact H | (rw [hy218]; exact H) | exact H
              have Ny218 := Aside0.mk hy218
              clear hy218
              simp only [Option.some.injEq, Prod.mk.injEq] at H
              obtain ⟨rfl, rfl, rfl⟩ := H
              have hcz19_0 : wc.cell? ⟨gb207, 0, none⟩ = some (.int .u8 a1_0) := (bC_ BK207.out 0).trans rfl
              have hcz19_1 : wc.cell? ⟨gb207, 1, none⟩ = some (.int .i64 a1_1) := (bC_ BK207.out 1).trans rfl
              have hcz19_2 : wc.cell? ⟨gb207, 2, none⟩ = some (.int .i64 a1_2) := (bC_ BK207.out 2).trans rfl
              have hcz19_3 : wc.cell? ⟨gb207, 3, none⟩ = some (.int .i64 a1_3) := (bC_ BK207.out 3).trans rfl
              have hcz19_4 : wc.cell? ⟨gb207, 4, none⟩ = some (.int .i64 a1_4) := (bC_ BK207.out 4).trans rfl
              have hcz19_5 : wc.cell? ⟨gb207, 5, none⟩ = some (.int .i64 a1_5) := (bC_ BK207.out 5).trans rfl
              have hcz19_6 : wc.cell? ⟨gb207, 6, none⟩ = some (.bool true) := (bC_ BK207.out 6).trans rfl
              have hcz19_7 : wc.cell? ⟨gb207, 7, none⟩ = some (.int .i64 a1_7) := (bC_ BK207.out 7).trans rfl
              have hfz19_0 := bF_ BK207.out 0
              have hfz19_1 := bF_ BK207.out 1
              have hfz19_2 := bF_ BK207.out 2
              have hfz19_3 := bF_ BK207.out 3
              have hfz19_4 := bF_ BK207.out 4
              have hfz19_5 := bF_ BK207.out 5
              have hfz19_6 := bF_ BK207.out 6
              have hfz19_7 := bF_ BK207.out 7
              go_wp2_with (first | ((with_reducible refine gate_dst (N := 54) rfl ?_); refine Kd.R_lit (Kd.int .u8) _ 5 ?hg (N := 54) ?hd (xs := ([Go.bits .or .u8 ((((Go.bits .and .i64 a0 7) % 256) * 8) % 256) 5] : List Int)) (inner := [.int .u8 (Go.bits .or .u8 ((((Go.bits .and .i64 a0 7) % 256) * 8) % 256) 5)]) (ok := fun _ => True) (okp := fun _ => True) ?hr ?hp (fun _ hk => hk) trivial (Below.refl _ _) (Nat.le_refl _) (by simp) ?_; (case hd => rfl); (case hg => rfl); (case hr => first | (go_simp; done) | (go_simp; rfl)); (case hp => exact (Reps.one (show Kd.M (Kd.int .u8) _ _ _ (Go.bits .or .u8 ((((Go.bits .and .i64 a0 7) % 256) * 8) % 256) 5) [.int .u8 (Go.bits .or .u8 ((((Go.bits .and .i64 a0 7) % 256) * 8) % 256) 5)] from rfl) (Reps.none _ _))); intro v213 w20 ho21 hb hg_ hnew_; clear hg_ hnew_; (first | rw [← Ny212.out] at ho21 | (simp only [Int.reduceToNat] at ho21; rw [← Ny212.out] at ho21)); have n0_ := Aside0.mk (Kd.R_lower ho21 (below_size (by repeat (first | (with_reducible first | exact HB.out | apply bX_ | apply bW_ | apply bY_ | refine bS_ ?_ GE207.out) | exact HB.out)))); have n1_ := Aside0.mk (blk_below (g := gb207) (o := .cells #[.int .u8 a1_0, .int .i64 a1_1, .int .i64 a1_2, .int .i64 a1_3, .int .i64 a1_4, .int .i64 a1_5, .bool true, .int .i64 a1_7] 23 (0, 0)) (by (with_reducible repeat (first | refine bN_ ?_ _ | refine bD_ ?_ | refine bA_ ?_ _)); exact BK207.out) hb); have n2_ := Aside0.mk (below_step (by repeat (first | (with_reducible first | exact HB.out | apply bX_ | apply bW_ | apply bY_ | refine bS_ ?_ GE207.out) | exact HB.out)) hb); clear BK207; clear HB; have HO214 := n0_; have BK207 := n1_; have HB := n2_; clear n0_ n1_ n2_; clear hb ho21; have hcz22_0 : w20.cell? ⟨gb207, 0, none⟩ = some (.int .u8 a1_0) := (bC_ BK207.out 0).trans rfl; have hcz22_1 : w20.cell? ⟨gb207, 1, none⟩ = some (.int .i64 a1_1) := (bC_ BK207.out 1).trans rfl; have hcz22_2 : w20.cell? ⟨gb207, 2, none⟩ = some (.int .i64 a1_2) := (bC_ BK207.out 2).trans rfl; have hcz22_3 : w20.cell? ⟨gb207, 3, none⟩ = some (.int .i64 a1_3) := (bC_ BK207.out 3).trans rfl; have hcz22_4 : w20.cell? ⟨gb207, 4, none⟩ = some (.int .i64 a1_4) := (bC_ BK207.out 4).trans rfl; have hcz22_5 : w20.cell? ⟨gb207, 5, none⟩ = some (.int .i64 a1_5) := (bC_ BK207.out 5).trans rfl; have hcz22_6 : w20.cell? ⟨gb207, 6, none⟩ = some (.bool true) := (bC_ BK207.out 6).trans rfl; have hcz22_7 : w20.cell? ⟨gb207, 7, none⟩ = some (.int .i64 a1_7) := (bC_ BK207.out 7).trans rfl; have hfz22_0 := bF_ BK207.out 0; have hfz22_1 := bF_ BK207.out 1; have hfz22_2 := bF_ BK207.out 2; have hfz22_3 := bF_ BK207.out 3; have hfz22_4 := bF_ BK207.out 4; have hfz22_5 := bF_ BK207.out 5; have hfz22_6 := bF_ BK207.out 6; have hfz22_7 := bF_ BK207.out 7) | ((with_reducible refine gate_callee (f := 31) rfl ?_); refine goesL_ (some 57) rfl rfl Tryd.func31 (by kernel_rfl) rfl #[.int .i64 a1_5, .int .i64 4] rfl (by (try simp only [List.map_toArray, List.map_cons, List.map_nil]); first | done | rfl | (simp only [List.length_drop, List.length_take]; rfl)) ?_; (with_reducible refine (r8_shown.calls kj2 a1_5 4 t215 _ A17.out).mono ?_); rintro e w23 ⟨v216, rfl, ho0, hb⟩; refine ⟨_, rfl, ?_⟩; have n0_ := Aside0.mk (Kd.R_elder' (by (with_reducible repeat (first | apply Kd.R_alloc | apply Kd.R_drewN | apply Kd.R_drew)); exact HO214.out) (by first | exact Kd.R_base ho0 | exact Kd.R_base (Kd.S_R ho0) | exact Kd.R_base ho0) hb); have n1_ := Aside0.mk (Kd.R_lower (Kd.R_new' ho0 (Kd.R_lt (by (with_reducible repeat (first | apply Kd.R_alloc | apply Kd.R_drewN | apply Kd.R_drew)); exact HO214.out))) (below_size (by repeat (first | (with_reducible first | exact HB.out | apply bX_ | apply bW_ | apply bY_ | refine bS_ ?_ GE207.out) | exact HB.out)))); have n2_ := Aside0.mk (blk_below (g := gb207) (o := .cells #[.int .u8 a1_0, .int .i64 a1_1, .int .i64 a1_2, .int .i64 a1_3, .int .i64 a1_4, .int .i64 a1_5, .bool true, .int .i64 a1_7] 23 (0, 0)) (by (with_reducible repeat (first | refine bN_ ?_ _ | refine bD_ ?_ | refine bA_ ?_ _)); exact BK207.out) hb); have n3_ := Aside0.mk (below_step (by repeat (first | (with_reducible first | exact HB.out | apply bX_ | apply bW_ | apply bY_ | refine bS_ ?_ GE207.out) | exact HB.out)) hb); clear HO214; clear BK207; clear HB; have HO214 := n0_; have HO217 := n1_; have BK207 := n2_; have HB := n3_; clear n0_ n1_ n2_ n3_; (try clear hb); (try clear hb2); (try clear hk); (try clear hi); (try clear ho0); obtain ⟨Ao25, co25, eo25⟩ := Kd.R_slice HO217.out; subst eo25) | ((with_reducible refine gate_builtin (b := .append) (xs := #[.tmp 54, .tmp 57]) rfl ?_); at_builtin; refine Kd.R_append_rows (Kd.int .u8) (w0 := w) w.heap.size rfl (.tmp 54) (.tmp 57) 24 5 (.int .u8 0) 1 rfl Tryd.underlying24 info5 rfl (by decide) (by omega) v213 y212 t215 _ _ _ (fun k_ => some k_ ≠ (.slice Ao25 t215.length co25 : Value).ownBlock) (fun _ => False) rfl rfl ?aO ?aR (fun _ _ h => h) (fun _ h => h.elim) ?aF ?aB ?aS ?aL ?_; (case aR => repeat (first | exact (Kd.R_reads' HO217.out).2.2 | (with_reducible refine Kd.C_alloc ?_ _) | (with_reducible refine Kd.C_drewN ?_ _) | (with_reducible refine Kd.C_drew ?_))); (case aB => exact (by repeat (first | (with_reducible first | exact HB.out | apply bX_ | apply bW_ | apply bY_ | refine bS_ ?_ GE207.out) | exact HB.out))); (case aF => exact (fun k_ hk => Kd.fresh' (Kd.R_lt (by (with_reducible repeat (first | apply Kd.R_alloc | apply Kd.R_drewN | apply Kd.R_drew)); exact HO217.out)) k_ hk)); (case aO => exact (by (with_reducible repeat (first | apply Kd.R_alloc | apply Kd.R_drewN | apply Kd.R_drew)); exact Kd.R_mono HO214.out (fun _ hk => hk.2))); (case aS => exact (below_size (by repeat (first | (with_reducible first | exact HB.out | apply bX_ | apply bW_ | apply bY_ | refine bS_ ?_ GE207.out) | exact HB.out)))); (case aL => have := LMc18.out; omega); intro v219 w24 ho hb hg hat; rw [← Ny218.out] at ho; have n0_ := Aside0.mk (blk_grown (g := gb207) (o := .cells #[.int .u8 a1_0, .int .i64 a1_1, .int .i64 a1_2, .int .i64 a1_3, .int .i64 a1_4, .int .i64 a1_5, .bool true, .int .i64 a1_7] 23 (0, 0)) (by (with_reducible repeat (first | refine bN_ ?_ _ | refine bD_ ?_ | refine bA_ ?_ _)); exact BK207.out) hg (Kd.R_ne HO214.out BK207.out (by decide))); have n1_ := Aside0.mk (Kd.R_after (ok := (fun _ => True)) (by (with_reducible repeat (first | apply Kd.R_alloc | apply Kd.R_drewN | apply Kd.R_drew)); exact HO217.out) hg hat); have n2_ := Aside0.mk (hb); have n3_ := Aside0.mk (ho); clear BK207; clear HO217; clear HB; clear HO214; have BK207 := n0_; have HO217 := n1_; have HB := n2_; have HO220 := n3_; clear n0_ n1_ n2_ n3_; clear ho hb hg hat))
              go_ret3
              exact ⟨_, by first | rfl | (simp [errW_none, errW_some] <;> rfl) | (simp [*, errW_none, errW_some] <;> rfl), by (with_reducible repeat (first | apply Kd.R_alloc | apply Kd.R_drewN | apply Kd.R_drew)); exact Kd.R_mono HO220.out (fun _ hk => trivial), by repeat (first | (with_reducible first | exact HB.out | apply bX_ | apply bW_ | apply bY_ | refine bS_ ?_ GE207.out) | exact HB.out)⟩
            · rw [if_neg c18] at H
              exact absurd H (by simp)
          · replace c16 := Bool.eq_false_iff.mpr c16
            subst c16
            have H1 : (if a1_2 < 0 then (r8_Put.j2 kj2 ((((Go.bits .and .i64 a0 7) % 256) * 8) % 256) ((((a0 / 8) % 256) * 4) % 256) 0 4 a1_0 a1_1 a1_2 a1_3 a1_4 a1_5 false a1_7) else (if a1_5 = 0 then (r8_Put.j1 kj2 ((((Go.bits .and .i64 a0 7) % 256) * 8) % 256) ((((a0 / 8) % 256) * 4) % 256) 2 4 ((Go.bits .and .i64 a1_2 7) != 5) a1_0 a1_1 a1_2 a1_3 a1_4 a1_5 false a1_7) else (r8_Put.j1 kj2 ((((Go.bits .and .i64 a0 7) % 256) * 8) % 256) ((((a0 / 8) % 256) * 4) % 256) 2 4 false a1_0 a1_1 a1_2 a1_3 a1_4 a1_5 false a1_7))) = some (r1, r2, r3) := by rw [if_neg (show ¬ (false = true) by decide)] at H; exact H
            clear H
            have H := H1
            clear H1
            have HC26 := Aside0.mk H
            clear H
            have hcz27_0 : wc.cell? ⟨gb207, 0, none⟩ = some (.int .u8 a1_0) := (bC_ BK207.out 0).trans rfl
            have hcz27_1 : wc.cell? ⟨gb207, 1, none⟩ = some (.int .i64 a1_1) := (bC_ BK207.out 1).trans rfl
            have hcz27_2 : wc.cell? ⟨gb207, 2, none⟩ = some (.int .i64 a1_2) := (bC_ BK207.out 2).trans rfl
            have hcz27_3 : wc.cell? ⟨gb207, 3, none⟩ = some (.int .i64 a1_3) := (bC_ BK207.out 3).trans rfl
            have hcz27_4 : wc.cell? ⟨gb207, 4, none⟩ = some (.int .i64 a1_4) := (bC_ BK207.out 4).trans rfl
            have hcz27_5 : wc.cell? ⟨gb207, 5, none⟩ = some (.int .i64 a1_5) := (bC_ BK207.out 5).trans rfl
            have hcz27_6 : wc.cell? ⟨gb207, 6, none⟩ = some (.bool false) := (bC_ BK207.out 6).trans rfl
            have hcz27_7 : wc.cell? ⟨gb207, 7, none⟩ = some (.int .i64 a1_7) := (bC_ BK207.out 7).trans rfl
            have hfz27_0 := bF_ BK207.out 0
            have hfz27_1 := bF_ BK207.out 1
            have hfz27_2 := bF_ BK207.out 2
            have hfz27_3 := bF_ BK207.out 3
            have hfz27_4 := bF_ BK207.out 4
            have hfz27_5 := bF_ BK207.out 5
            have hfz27_6 := bF_ BK207.out 6
            have hfz27_7 := bF_ BK207.out 7
            go_upto_block 0 with (fail)
            go_cut [9, 10] (fun v9 v10 wc => ∃ (kq : Nat) (x9_25 : Int) (x10_25 : Int), v9 = .int .u8 x9_25 ∧ v10 = .int .i64 x10_25 ∧ Aside0 (r8_Put.j2 kq ((((Go.bits .and .i64 a0 7) % 256) * 8) % 256) ((((a0 / 8) % 256) * 4) % 256) x9_25 x10_25 a1_0 a1_1 a1_2 a1_3 a1_4 a1_5 false a1_7 = some (r1, r2, r3)) ∧ Aside0 (kq ≤ kj2) ∧ Aside0 (wc.heap[gb207]? = some (.cells #[.int .u8 a1_0, .int .i64 a1_1, .int .i64 a1_2, .int .i64 a1_3, .int .i64 a1_4, .int .i64 a1_5, .bool false, .int .i64 a1_7] 23 (0, 0))) ∧ Aside0 (Below w.heap.size w wc))
            case first =>
              have H := HC26.out
              clear HC26
              by_cases c28 : a1_2 < 0
              · rw [if_pos c28] at H
                have c28b0 : decide (a1_2 < 0) = true := decide_eq_true c28
                clear c28
                (first | rw [c28b0] | (simp only [i64_w, i32_w]; rw [c28b0]) | skip)
                have H' := Aside0.mk H
                clear H
                have hcz29_0 : wc.cell? ⟨gb207, 0, none⟩ = some (.int .u8 a1_0) := (bC_ BK207.out 0).trans rfl
                have hcz29_1 : wc.cell? ⟨gb207, 1, none⟩ = some (.int .i64 a1_1) := (bC_ BK207.out 1).trans rfl
                have hcz29_2 : wc.cell? ⟨gb207, 2, none⟩ = some (.int .i64 a1_2) := (bC_ BK207.out 2).trans rfl
                have hcz29_3 : wc.cell? ⟨gb207, 3, none⟩ = some (.int .i64 a1_3) := (bC_ BK207.out 3).trans rfl
                have hcz29_4 : wc.cell? ⟨gb207, 4, none⟩ = some (.int .i64 a1_4) := (bC_ BK207.out 4).trans rfl
                have hcz29_5 : wc.cell? ⟨gb207, 5, none⟩ = some (.int .i64 a1_5) := (bC_ BK207.out 5).trans rfl
                have hcz29_6 : wc.cell? ⟨gb207, 6, none⟩ = some (.bool false) := (bC_ BK207.out 6).trans rfl
                have hcz29_7 : wc.cell? ⟨gb207, 7, none⟩ = some (.int .i64 a1_7) := (bC_ BK207.out 7).trans rfl
                have hfz29_0 := bF_ BK207.out 0
                have hfz29_1 := bF_ BK207.out 1
                have hfz29_2 := bF_ BK207.out 2
                have hfz29_3 := bF_ BK207.out 3
                have hfz29_4 := bF_ BK207.out 4
                have hfz29_5 := bF_ BK207.out 5
                have hfz29_6 := bF_ BK207.out 6
                have hfz29_7 := bF_ BK207.out 7
                go_wp2
                go_meet
                case rel => exact ⟨_, (0), (4), (by first | rfl | (simp; done) | (simp [*]; done)), (by first | rfl | (simp; done) | (simp [*]; done)), H', ⟨by have := HJ2.out; first | omega | exact Nat.le_refl _⟩, ⟨by (with_reducible repeat (first | refine bN_ ?_ _ | refine bD_ ?_ | refine bA_ ?_ _)); exact BK207.out⟩, ⟨by repeat (first | (with_reducible first | exact HB.out | apply bX_ | apply bW_ | apply bY_ | refine bS_ ?_ GE207.out) | exact HB.out)⟩⟩
              · rw [if_neg c28] at H
                have c28b0 : decide (a1_2 < 0) = false := decide_eq_false c28
                clear c28
                (first | rw [c28b0] | (simp only [i64_w, i32_w]; rw [c28b0]) | skip)
                have HC30 := Aside0.mk H
                clear H
                have hcz31_0 : wc.cell? ⟨gb207, 0, none⟩ = some (.int .u8 a1_0) := (bC_ BK207.out 0).trans rfl
                have hcz31_1 : wc.cell? ⟨gb207, 1, none⟩ = some (.int .i64 a1_1) := (bC_ BK207.out 1).trans rfl
                have hcz31_2 : wc.cell? ⟨gb207, 2, none⟩ = some (.int .i64 a1_2) := (bC_ BK207.out 2).trans rfl
                have hcz31_3 : wc.cell? ⟨gb207, 3, none⟩ = some (.int .i64 a1_3) := (bC_ BK207.out 3).trans rfl
                have hcz31_4 : wc.cell? ⟨gb207, 4, none⟩ = some (.int .i64 a1_4) := (bC_ BK207.out 4).trans rfl
                have hcz31_5 : wc.cell? ⟨gb207, 5, none⟩ = some (.int .i64 a1_5) := (bC_ BK207.out 5).trans rfl
                have hcz31_6 : wc.cell? ⟨gb207, 6, none⟩ = some (.bool false) := (bC_ BK207.out 6).trans rfl
                have hcz31_7 : wc.cell? ⟨gb207, 7, none⟩ = some (.int .i64 a1_7) := (bC_ BK207.out 7).trans rfl
                have hfz31_0 := bF_ BK207.out 0
                have hfz31_1 := bF_ BK207.out 1
                have hfz31_2 := bF_ BK207.out 2
                have hfz31_3 := bF_ BK207.out 3
                have hfz31_4 := bF_ BK207.out 4
                have hfz31_5 := bF_ BK207.out 5
                have hfz31_6 := bF_ BK207.out 6
                have hfz31_7 := bF_ BK207.out 7
                go_upto_region 12 with (fail)
                go_cut [64] (fun v64 wc => ∃ (kq : Nat) (x64_29 : Bool), v64 = .bool x64_29 ∧ Aside0 (r8_Put.j1 kq ((((Go.bits .and .i64 a0 7) % 256) * 8) % 256) ((((a0 / 8) % 256) * 4) % 256) 2 4 x64_29 a1_0 a1_1 a1_2 a1_3 a1_4 a1_5 false a1_7 = some (r1, r2, r3)) ∧ Aside0 (kq ≤ kj2) ∧ Aside0 (wc.heap[gb207]? = some (.cells #[.int .u8 a1_0, .int .i64 a1_1, .int .i64 a1_2, .int .i64 a1_3, .int .i64 a1_4, .int .i64 a1_5, .bool false, .int .i64 a1_7] 23 (0, 0))) ∧ Aside0 (Below w.heap.size w wc))
                case first =>
                  have H := HC30.out
                  clear HC30
                  by_cases c32 : a1_5 = 0
                  · rw [if_pos c32] at H
                    have c32b0 : (a1_5 == 0) = true := beq_iff_eq.mpr c32
                    have c32b1 : (a1_5 != 0) = false := bne_eq_false_iff_eq.mpr c32
                    clear c32
                    (first | rw [c32b0] | (simp only [i64_w, i32_w]; rw [c32b0]) | skip)
                    have H' := Aside0.mk H
                    clear H
                    have hcz33_0 : wc.cell? ⟨gb207, 0, none⟩ = some (.int .u8 a1_0) := (bC_ BK207.out 0).trans rfl
                    have hcz33_1 : wc.cell? ⟨gb207, 1, none⟩ = some (.int .i64 a1_1) := (bC_ BK207.out 1).trans rfl
                    have hcz33_2 : wc.cell? ⟨gb207, 2, none⟩ = some (.int .i64 a1_2) := (bC_ BK207.out 2).trans rfl
                    have hcz33_3 : wc.cell? ⟨gb207, 3, none⟩ = some (.int .i64 a1_3) := (bC_ BK207.out 3).trans rfl
                    have hcz33_4 : wc.cell? ⟨gb207, 4, none⟩ = some (.int .i64 a1_4) := (bC_ BK207.out 4).trans rfl
                    have hcz33_5 : wc.cell? ⟨gb207, 5, none⟩ = some (.int .i64 a1_5) := (bC_ BK207.out 5).trans rfl
                    have hcz33_6 : wc.cell? ⟨gb207, 6, none⟩ = some (.bool false) := (bC_ BK207.out 6).trans rfl
                    have hcz33_7 : wc.cell? ⟨gb207, 7, none⟩ = some (.int .i64 a1_7) := (bC_ BK207.out 7).trans rfl
                    have hfz33_0 := bF_ BK207.out 0
                    have hfz33_1 := bF_ BK207.out 1
                    have hfz33_2 := bF_ BK207.out 2
                    have hfz33_3 := bF_ BK207.out 3
                    have hfz33_4 := bF_ BK207.out 4
                    have hfz33_5 := bF_ BK207.out 5
                    have hfz33_6 := bF_ BK207.out 6
                    have hfz33_7 := bF_ BK207.out 7
                    go_wp2
                    go_meet
                    case rel => exact ⟨_, (((Go.bits .and .i64 a1_2 7) != 5)), (by first | rfl | (simp; done) | (simp [*]; done)), H', ⟨by have := HJ2.out; first | omega | exact Nat.le_refl _⟩, ⟨by (with_reducible repeat (first | refine bN_ ?_ _ | refine bD_ ?_ | refine bA_ ?_ _)); exact BK207.out⟩, ⟨by repeat (first | (with_reducible first | exact HB.out | apply bX_ | apply bW_ | apply bY_ | refine bS_ ?_ GE207.out) | exact HB.out)⟩⟩
                  · rw [if_neg c32] at H
                    have c32b0 : (a1_5 == 0) = false := beq_eq_false_iff_ne.mpr c32
                    have c32b1 : (a1_5 != 0) = true := bne_iff_ne.mpr c32
                    (first | rw [c32b0] | (simp only [i64_w, i32_w]; rw [c32b0]) | skip)
                    have H' := Aside0.mk H
                    clear H
                    have hcz34_0 : wc.cell? ⟨gb207, 0, none⟩ = some (.int .u8 a1_0) := (bC_ BK207.out 0).trans rfl
                    have hcz34_1 : wc.cell? ⟨gb207, 1, none⟩ = some (.int .i64 a1_1) := (bC_ BK207.out 1).trans rfl
                    have hcz34_2 : wc.cell? ⟨gb207, 2, none⟩ = some (.int .i64 a1_2) := (bC_ BK207.out 2).trans rfl
                    have hcz34_3 : wc.cell? ⟨gb207, 3, none⟩ = some (.int .i64 a1_3) := (bC_ BK207.out 3).trans rfl
                    have hcz34_4 : wc.cell? ⟨gb207, 4, none⟩ = some (.int .i64 a1_4) := (bC_ BK207.out 4).trans rfl
                    have hcz34_5 : wc.cell? ⟨gb207, 5, none⟩ = some (.int .i64 a1_5) := (bC_ BK207.out 5).trans rfl
                    have hcz34_6 : wc.cell? ⟨gb207, 6, none⟩ = some (.bool false) := (bC_ BK207.out 6).trans rfl
                    have hcz34_7 : wc.cell? ⟨gb207, 7, none⟩ = some (.int .i64 a1_7) := (bC_ BK207.out 7).trans rfl
                    have hfz34_0 := bF_ BK207.out 0
                    have hfz34_1 := bF_ BK207.out 1
                    have hfz34_2 := bF_ BK207.out 2
                    have hfz34_3 := bF_ BK207.out 3
                    have hfz34_4 := bF_ BK207.out 4
                    have hfz34_5 := bF_ BK207.out 5
                    have hfz34_6 := bF_ BK207.out 6
                    have hfz34_7 := bF_ BK207.out 7
                    go_wp2
                    go_meet
                    case rel => exact ⟨_, (false), (by first | rfl | (simp; done) | (simp [*]; done)), H', ⟨by have := HJ2.out; first | omega | exact Nat.le_refl _⟩, ⟨by (with_reducible repeat (first | refine bN_ ?_ _ | refine bD_ ?_ | refine bA_ ?_ _)); exact BK207.out⟩, ⟨by repeat (first | (with_reducible first | exact HB.out | apply bX_ | apply bW_ | apply bY_ | refine bS_ ?_ GE207.out) | exact HB.out)⟩⟩
                case rest =>
                  clear HC30
                  (try clear c1); (try clear c2); (try clear p2); (try clear c3); (try clear c5); (try clear c5b0); (try clear c6); (try clear c6b0); (try clear c10); (try clear c11); (try clear c11b0); (try clear c11b1); (try clear c13); (try clear c16); (try clear c18); (try clear c28); (try clear c28b0); (try clear c31); (try clear c32); (try clear c32b0); (try clear c32b1); (try clear p2)
                  obtain ⟨kq, x64_29, rfl, HA, HJ29, BK207, HB⟩ := hcut
                  cases kq with
                  | zero => exact absurd HA.out (by simp [r8_Put.j1])
                  | succ kj29 =>
                    have H := HA.out
                    clear HA
                    simp only [r8_Put.j1] at H
                    by_cases c35 : x64_29 = true
                    · subst c35
                      have H1 : (r8_Put.j2 kj29 ((((Go.bits .and .i64 a0 7) % 256) * 8) % 256) ((((a0 / 8) % 256) * 4) % 256) 0 0 a1_0 a1_1 a1_2 a1_3 a1_4 a1_5 false a1_7) = some (r1, r2, r3) := by rw [if_pos rfl] at H; exact H
                      clear H
                      have H := H1
                      clear H1
                      have H' := Aside0.mk H
                      clear H
                      go_wp2
                      go_meet
                      case rel => exact ⟨_, (0), (0), (by first | rfl | (simp; done) | (simp [*]; done)), (by first | rfl | (simp; done) | (simp [*]; done)), H', ⟨by have := HJ2.out; have := HJ29.out; first | omega | exact Nat.le_refl _⟩, ⟨by (with_reducible repeat (first | refine bN_ ?_ _ | refine bD_ ?_ | refine bA_ ?_ _)); exact BK207.out⟩, ⟨by repeat (first | (with_reducible first | exact HB.out | apply bX_ | apply bW_ | apply bY_ | refine bS_ ?_ GE207.out) | exact HB.out)⟩⟩
                    · replace c35 := Bool.eq_false_iff.mpr c35
                      subst c35
                      have H1 : (if a1_5 ≥ (-128) then (if a1_5 < 128 then (r8_Put.j2 kj29 ((((Go.bits .and .i64 a0 7) % 256) * 8) % 256) ((((a0 / 8) % 256) * 4) % 256) 1 1 a1_0 a1_1 a1_2 a1_3 a1_4 a1_5 false a1_7) else (r8_Put.j2 kj29 ((((Go.bits .and .i64 a0 7) % 256) * 8) % 256) ((((a0 / 8) % 256) * 4) % 256) 2 4 a1_0 a1_1 a1_2 a1_3 a1_4 a1_5 false a1_7)) else (r8_Put.j2 kj29 ((((Go.bits .and .i64 a0 7) % 256) * 8) % 256) ((((a0 / 8) % 256) * 4) % 256) 2 4 a1_0 a1_1 a1_2 a1_3 a1_4 a1_5 false a1_7)) = some (r1, r2, r3) := by rw [if_neg (show ¬ (false = true) by decide)] at H; exact H
                      clear H
                      have H := H1
                      clear H1
                      by_cases c36 : a1_5 ≥ (-128)
                      · rw [if_pos c36] at H
                        have c36b0 : decide ((-128) ≤ a1_5) = true := decide_eq_true c36
                        clear c36
                        by_cases c37 : a1_5 < 128
                        · rw [if_pos c37] at H
                          have c37b0 : decide (a1_5 < 128) = true := decide_eq_true c37
                          clear c37
                          have H' := Aside0.mk H
                          clear H
                          have hcz38_0 : wc.cell? ⟨gb207, 0, none⟩ = some (.int .u8 a1_0) := (bC_ BK207.out 0).trans rfl
                          have hcz38_1 : wc.cell? ⟨gb207, 1, none⟩ = some (.int .i64 a1_1) := (bC_ BK207.out 1).trans rfl
                          have hcz38_2 : wc.cell? ⟨gb207, 2, none⟩ = some (.int .i64 a1_2) := (bC_ BK207.out 2).trans rfl
                          have hcz38_3 : wc.cell? ⟨gb207, 3, none⟩ = some (.int .i64 a1_3) := (bC_ BK207.out 3).trans rfl
                          have hcz38_4 : wc.cell? ⟨gb207, 4, none⟩ = some (.int .i64 a1_4) := (bC_ BK207.out 4).trans rfl
                          have hcz38_5 : wc.cell? ⟨gb207, 5, none⟩ = some (.int .i64 a1_5) := (bC_ BK207.out 5).trans rfl
                          have hcz38_6 : wc.cell? ⟨gb207, 6, none⟩ = some (.bool false) := (bC_ BK207.out 6).trans rfl
                          have hcz38_7 : wc.cell? ⟨gb207, 7, none⟩ = some (.int .i64 a1_7) := (bC_ BK207.out 7).trans rfl
                          have hfz38_0 := bF_ BK207.out 0
                          have hfz38_1 := bF_ BK207.out 1
                          have hfz38_2 := bF_ BK207.out 2
                          have hfz38_3 := bF_ BK207.out 3
                          have hfz38_4 := bF_ BK207.out 4
                          have hfz38_5 := bF_ BK207.out 5
                          have hfz38_6 := bF_ BK207.out 6
                          have hfz38_7 := bF_ BK207.out 7
                          go_wp2
                          go_meet
                          case rel => exact ⟨_, (1), (1), (by first | rfl | (simp; done) | (simp [*]; done)), (by first | rfl | (simp; done) | (simp [*]; done)), H', ⟨by have := HJ2.out; have := HJ29.out; first | omega | exact Nat.le_refl _⟩, ⟨by (with_reducible repeat (first | refine bN_ ?_ _ | refine bD_ ?_ | refine bA_ ?_ _)); exact BK207.out⟩, ⟨by repeat (first | (with_reducible first | exact HB.out | apply bX_ | apply bW_ | apply bY_ | refine bS_ ?_ GE207.out) | exact HB.out)⟩⟩
                        · rw [if_neg c37] at H
                          have c37b0 : decide (a1_5 < 128) = false := decide_eq_false c37
                          clear c37
                          have H' := Aside0.mk H
                          clear H
                          have hcz39_0 : wc.cell? ⟨gb207, 0, none⟩ = some (.int .u8 a1_0) := (bC_ BK207.out 0).trans rfl
                          have hcz39_1 : wc.cell? ⟨gb207, 1, none⟩ = some (.int .i64 a1_1) := (bC_ BK207.out 1).trans rfl
                          have hcz39_2 : wc.cell? ⟨gb207, 2, none⟩ = some (.int .i64 a1_2) := (bC_ BK207.out 2).trans rfl
                          have hcz39_3 : wc.cell? ⟨gb207, 3, none⟩ = some (.int .i64 a1_3) := (bC_ BK207.out 3).trans rfl
                          have hcz39_4 : wc.cell? ⟨gb207, 4, none⟩ = some (.int .i64 a1_4) := (bC_ BK207.out 4).trans rfl
                          have hcz39_5 : wc.cell? ⟨gb207, 5, none⟩ = some (.int .i64 a1_5) := (bC_ BK207.out 5).trans rfl
                          have hcz39_6 : wc.cell? ⟨gb207, 6, none⟩ = some (.bool false) := (bC_ BK207.out 6).trans rfl
                          have hcz39_7 : wc.cell? ⟨gb207, 7, none⟩ = some (.int .i64 a1_7) := (bC_ BK207.out 7).trans rfl
                          have hfz39_0 := bF_ BK207.out 0
                          have hfz39_1 := bF_ BK207.out 1
                          have hfz39_2 := bF_ BK207.out 2
                          have hfz39_3 := bF_ BK207.out 3
                          have hfz39_4 := bF_ BK207.out 4
                          have hfz39_5 := bF_ BK207.out 5
                          have hfz39_6 := bF_ BK207.out 6
                          have hfz39_7 := bF_ BK207.out 7
                          go_wp2
                          go_meet
                          case rel => exact ⟨_, (2), (4), (by first | rfl | (simp; done) | (simp [*]; done)), (by first | rfl | (simp; done) | (simp [*]; done)), H', ⟨by have := HJ2.out; have := HJ29.out; first | omega | exact Nat.le_refl _⟩, ⟨by (with_reducible repeat (first | refine bN_ ?_ _ | refine bD_ ?_ | refine bA_ ?_ _)); exact BK207.out⟩, ⟨by repeat (first | (with_reducible first | exact HB.out | apply bX_ | apply bW_ | apply bY_ | refine bS_ ?_ GE207.out) | exact HB.out)⟩⟩
                      · rw [if_neg c36] at H
                        have c36b0 : decide ((-128) ≤ a1_5) = false := decide_eq_false c36
                        clear c36
                        have H' := Aside0.mk H
                        clear H
                        have hcz40_0 : wc.cell? ⟨gb207, 0, none⟩ = some (.int .u8 a1_0) := (bC_ BK207.out 0).trans rfl
                        have hcz40_1 : wc.cell? ⟨gb207, 1, none⟩ = some (.int .i64 a1_1) := (bC_ BK207.out 1).trans rfl
                        have hcz40_2 : wc.cell? ⟨gb207, 2, none⟩ = some (.int .i64 a1_2) := (bC_ BK207.out 2).trans rfl
                        have hcz40_3 : wc.cell? ⟨gb207, 3, none⟩ = some (.int .i64 a1_3) := (bC_ BK207.out 3).trans rfl
                        have hcz40_4 : wc.cell? ⟨gb207, 4, none⟩ = some (.int .i64 a1_4) := (bC_ BK207.out 4).trans rfl
                        have hcz40_5 : wc.cell? ⟨gb207, 5, none⟩ = some (.int .i64 a1_5) := (bC_ BK207.out 5).trans rfl
                        have hcz40_6 : wc.cell? ⟨gb207, 6, none⟩ = some (.bool false) := (bC_ BK207.out 6).trans rfl
                        have hcz40_7 : wc.cell? ⟨gb207, 7, none⟩ = some (.int .i64 a1_7) := (bC_ BK207.out 7).trans rfl
                        have hfz40_0 := bF_ BK207.out 0
                        have hfz40_1 := bF_ BK207.out 1
                        have hfz40_2 := bF_ BK207.out 2
                        have hfz40_3 := bF_ BK207.out 3
                        have hfz40_4 := bF_ BK207.out 4
                        have hfz40_5 := bF_ BK207.out 5
                        have hfz40_6 := bF_ BK207.out 6
                        have hfz40_7 := bF_ BK207.out 7
                        go_wp2
                        go_meet
                        case rel => exact ⟨_, (2), (4), (by first | rfl | (simp; done) | (simp [*]; done)), (by first | rfl | (simp; done) | (simp [*]; done)), H', ⟨by have := HJ2.out; have := HJ29.out; first | omega | exact Nat.le_refl _⟩, ⟨by (with_reducible repeat (first | refine bN_ ?_ _ | refine bD_ ?_ | refine bA_ ?_ _)); exact BK207.out⟩, ⟨by repeat (first | (with_reducible first | exact HB.out | apply bX_ | apply bW_ | apply bY_ | refine bS_ ?_ GE207.out) | exact HB.out)⟩⟩
            case rest =>
              clear HC26
              (try clear c1); (try clear c2); (try clear p2); (try clear c3); (try clear c5); (try clear c5b0); (try clear c6); (try clear c6b0); (try clear c10); (try clear c11); (try clear c11b0); (try clear c11b1); (try clear c13); (try clear c16); (try clear c18); (try clear c28); (try clear c28b0); (try clear c31); (try clear c32); (try clear c32b0); (try clear c32b1); (try clear c35); (try clear c36); (try clear c36b0); (try clear c37); (try clear c37b0); (try clear p2)
              obtain ⟨kq, x9_25, x10_25, rfl, rfl, HA, HJ25, BK207, HB⟩ := hcut
              cases kq with
              | zero => exact absurd HA.out (by simp [r8_Put.j2])
              | succ kj25 =>
                have H := HA.out
                clear HA
                simp only [r8_Put.j2] at H
                have HC41 := Aside0.mk H
                clear H
                have hcz42_0 : wc.cell? ⟨gb207, 0, none⟩ = some (.int .u8 a1_0) := (bC_ BK207.out 0).trans rfl
                have hcz42_1 : wc.cell? ⟨gb207, 1, none⟩ = some (.int .i64 a1_1) := (bC_ BK207.out 1).trans rfl
                have hcz42_2 : wc.cell? ⟨gb207, 2, none⟩ = some (.int .i64 a1_2) := (bC_ BK207.out 2).trans rfl
                have hcz42_3 : wc.cell? ⟨gb207, 3, none⟩ = some (.int .i64 a1_3) := (bC_ BK207.out 3).trans rfl
                have hcz42_4 : wc.cell? ⟨gb207, 4, none⟩ = some (.int .i64 a1_4) := (bC_ BK207.out 4).trans rfl
                have hcz42_5 : wc.cell? ⟨gb207, 5, none⟩ = some (.int .i64 a1_5) := (bC_ BK207.out 5).trans rfl
                have hcz42_6 : wc.cell? ⟨gb207, 6, none⟩ = some (.bool false) := (bC_ BK207.out 6).trans rfl
                have hcz42_7 : wc.cell? ⟨gb207, 7, none⟩ = some (.int .i64 a1_7) := (bC_ BK207.out 7).trans rfl
                have hfz42_0 := bF_ BK207.out 0
                have hfz42_1 := bF_ BK207.out 1
                have hfz42_2 := bF_ BK207.out 2
                have hfz42_3 := bF_ BK207.out 3
                have hfz42_4 := bF_ BK207.out 4
                have hfz42_5 := bF_ BK207.out 5
                have hfz42_6 := bF_ BK207.out 6
                have hfz42_7 := bF_ BK207.out 7
                go_upto_if 85 with (fail)
                go_cut [8, 11] (fun v8 v11 wc => ∃ (kq : Nat) (x8_40 : Int) (x11_40 : Int), v8 = .int .u8 x8_40 ∧ v11 = .int .u8 x11_40 ∧ Aside0 (r8_Put.j3 kq ((((Go.bits .and .i64 a0 7) % 256) * 8) % 256) x8_40 x9_25 x10_25 x11_40 4 0 a1_0 a1_1 a1_2 a1_3 a1_4 a1_5 false a1_7 = some (r1, r2, r3)) ∧ Aside0 (kq ≤ kj25) ∧ Aside0 (wc.heap[gb207]? = some (.cells #[.int .u8 a1_0, .int .i64 a1_1, .int .i64 a1_2, .int .i64 a1_3, .int .i64 a1_4, .int .i64 a1_5, .bool false, .int .i64 a1_7] 23 (0, 0))) ∧ Aside0 (Below w.heap.size w wc))
                case first =>
                  have H := HC41.out
                  clear HC41
                  by_cases c43 : a1_2 ≥ 0
                  · rw [if_pos c43] at H
                    have c43b0 : decide (0 ≤ a1_2) = true := decide_eq_true c43
                    clear c43
                    (first | rw [c43b0] | (simp only [i64_w, i32_w]; rw [c43b0]) | skip)
                    have H' := Aside0.mk H
                    clear H
                    have hcz44_0 : wc.cell? ⟨gb207, 0, none⟩ = some (.int .u8 a1_0) := (bC_ BK207.out 0).trans rfl
                    have hcz44_1 : wc.cell? ⟨gb207, 1, none⟩ = some (.int .i64 a1_1) := (bC_ BK207.out 1).trans rfl
                    have hcz44_2 : wc.cell? ⟨gb207, 2, none⟩ = some (.int .i64 a1_2) := (bC_ BK207.out 2).trans rfl
                    have hcz44_3 : wc.cell? ⟨gb207, 3, none⟩ = some (.int .i64 a1_3) := (bC_ BK207.out 3).trans rfl
                    have hcz44_4 : wc.cell? ⟨gb207, 4, none⟩ = some (.int .i64 a1_4) := (bC_ BK207.out 4).trans rfl
                    have hcz44_5 : wc.cell? ⟨gb207, 5, none⟩ = some (.int .i64 a1_5) := (bC_ BK207.out 5).trans rfl
                    have hcz44_6 : wc.cell? ⟨gb207, 6, none⟩ = some (.bool false) := (bC_ BK207.out 6).trans rfl
                    have hcz44_7 : wc.cell? ⟨gb207, 7, none⟩ = some (.int .i64 a1_7) := (bC_ BK207.out 7).trans rfl
                    have hfz44_0 := bF_ BK207.out 0
                    have hfz44_1 := bF_ BK207.out 1
                    have hfz44_2 := bF_ BK207.out 2
                    have hfz44_3 := bF_ BK207.out 3
                    have hfz44_4 := bF_ BK207.out 4
                    have hfz44_5 := bF_ BK207.out 5
                    have hfz44_6 := bF_ BK207.out 6
                    have hfz44_7 := bF_ BK207.out 7
                    go_wp2
                    go_meet
                    case rel => exact ⟨_, (Go.bits .or .u8 ((((a0 / 8) % 256) * 4) % 256) ((a1_2 / 8) % 256)), ((Go.bits .and .i64 a1_2 7) % 256), (by first | rfl | (simp; done) | (simp [*]; done)), (by first | rfl | (simp; done) | (simp [*]; done)), H', ⟨by have := HJ2.out; have := HJ25.out; first | omega | exact Nat.le_refl _⟩, ⟨by (with_reducible repeat (first | refine bN_ ?_ _ | refine bD_ ?_ | refine bA_ ?_ _)); exact BK207.out⟩, ⟨by repeat (first | (with_reducible first | exact HB.out | apply bX_ | apply bW_ | apply bY_ | refine bS_ ?_ GE207.out) | exact HB.out)⟩⟩
                  · rw [if_neg c43] at H
                    have c43b0 : decide (0 ≤ a1_2) = false := decide_eq_false c43
                    clear c43
                    (first | rw [c43b0] | (simp only [i64_w, i32_w]; rw [c43b0]) | skip)
                    have H' := Aside0.mk H
                    clear H
                    go_wp2
                    go_meet
                    case rel => exact ⟨_, (((((a0 / 8) % 256) * 4) % 256)), (5), (by first | rfl | (simp; done) | (simp [*]; done)), (by first | rfl | (simp; done) | (simp [*]; done)), H', ⟨by have := HJ2.out; have := HJ25.out; first | omega | exact Nat.le_refl _⟩, ⟨by (with_reducible repeat (first | refine bN_ ?_ _ | refine bD_ ?_ | refine bA_ ?_ _)); exact BK207.out⟩, ⟨by repeat (first | (with_reducible first | exact HB.out | apply bX_ | apply bW_ | apply bY_ | refine bS_ ?_ GE207.out) | exact HB.out)⟩⟩
                case rest =>
                  clear HC41
                  (try clear c1); (try clear c2); (try clear p2); (try clear c3); (try clear c4); (try clear c5); (try clear c5b0); (try clear c6); (try clear c6b0); (try clear c10); (try clear c11); (try clear c11b0); (try clear c11b1); (try clear c13); (try clear c16); (try clear c18); (try clear c28); (try clear c28b0); (try clear c31); (try clear c32); (try clear c32b0); (try clear c32b1); (try clear c35); (try clear c36); (try clear c36b0); (try clear c37); (try clear c37b0); (try clear c43); (try clear c43b0); (try clear p2)
                  obtain ⟨kq, x8_40, x11_40, rfl, rfl, HA, HJ40, BK207, HB⟩ := hcut
                  cases kq with
                  | zero => exact absurd HA.out (by simp [r8_Put.j3])
                  | succ kj40 =>
                    have H := HA.out
                    clear HA
                    simp only [r8_Put.j3] at H
                    have HC45 := Aside0.mk H
                    clear H
                    have hcz46_0 : wc.cell? ⟨gb207, 0, none⟩ = some (.int .u8 a1_0) := (bC_ BK207.out 0).trans rfl
                    have hcz46_1 : wc.cell? ⟨gb207, 1, none⟩ = some (.int .i64 a1_1) := (bC_ BK207.out 1).trans rfl
                    have hcz46_2 : wc.cell? ⟨gb207, 2, none⟩ = some (.int .i64 a1_2) := (bC_ BK207.out 2).trans rfl
                    have hcz46_3 : wc.cell? ⟨gb207, 3, none⟩ = some (.int .i64 a1_3) := (bC_ BK207.out 3).trans rfl
                    have hcz46_4 : wc.cell? ⟨gb207, 4, none⟩ = some (.int .i64 a1_4) := (bC_ BK207.out 4).trans rfl
                    have hcz46_5 : wc.cell? ⟨gb207, 5, none⟩ = some (.int .i64 a1_5) := (bC_ BK207.out 5).trans rfl
                    have hcz46_6 : wc.cell? ⟨gb207, 6, none⟩ = some (.bool false) := (bC_ BK207.out 6).trans rfl
                    have hcz46_7 : wc.cell? ⟨gb207, 7, none⟩ = some (.int .i64 a1_7) := (bC_ BK207.out 7).trans rfl
                    have hfz46_0 := bF_ BK207.out 0
                    have hfz46_1 := bF_ BK207.out 1
                    have hfz46_2 := bF_ BK207.out 2
                    have hfz46_3 := bF_ BK207.out 3
                    have hfz46_4 := bF_ BK207.out 4
                    have hfz46_5 := bF_ BK207.out 5
                    have hfz46_6 := bF_ BK207.out 6
                    have hfz46_7 := bF_ BK207.out 7
                    go_upto_if 98 with (fail)
                    go_cut [8, 12, 13] (fun v8 v12 v13 wc => ∃ (kq : Nat) (x8_44 : Int) (x12_44 : Int) (x13_44 : Int), v8 = .int .u8 x8_44 ∧ v12 = .int .u8 x12_44 ∧ v13 = .int .u8 x13_44 ∧ Aside0 (r8_Put.j5 kq ((((Go.bits .and .i64 a0 7) % 256) * 8) % 256) x8_44 x9_25 x10_25 x11_40 x12_44 x13_44 a1_0 a1_1 a1_2 a1_3 a1_4 a1_5 false a1_7 = some (r1, r2, r3)) ∧ Aside0 (kq ≤ kj40) ∧ Aside0 (wc.heap[gb207]? = some (.cells #[.int .u8 a1_0, .int .i64 a1_1, .int .i64 a1_2, .int .i64 a1_3, .int .i64 a1_4, .int .i64 a1_5, .bool false, .int .i64 a1_7] 23 (0, 0))) ∧ Aside0 (Below w.heap.size w wc))
                    case first =>
                      have H := HC45.out
                      clear HC45
                      by_cases c47 : a1_3 ≥ 0
                      · rw [if_pos c47] at H
                        have c47b0 : decide (0 ≤ a1_3) = true := decide_eq_true c47
                        clear c47
                        (first | rw [c47b0] | (simp only [i64_w, i32_w]; rw [c47b0]) | skip)
                        have H' := Aside0.mk H
                        clear H
                        have hcz48_0 : wc.cell? ⟨gb207, 0, none⟩ = some (.int .u8 a1_0) := (bC_ BK207.out 0).trans rfl
                        have hcz48_1 : wc.cell? ⟨gb207, 1, none⟩ = some (.int .i64 a1_1) := (bC_ BK207.out 1).trans rfl
                        have hcz48_2 : wc.cell? ⟨gb207, 2, none⟩ = some (.int .i64 a1_2) := (bC_ BK207.out 2).trans rfl
                        have hcz48_3 : wc.cell? ⟨gb207, 3, none⟩ = some (.int .i64 a1_3) := (bC_ BK207.out 3).trans rfl
                        have hcz48_4 : wc.cell? ⟨gb207, 4, none⟩ = some (.int .i64 a1_4) := (bC_ BK207.out 4).trans rfl
                        have hcz48_5 : wc.cell? ⟨gb207, 5, none⟩ = some (.int .i64 a1_5) := (bC_ BK207.out 5).trans rfl
                        have hcz48_6 : wc.cell? ⟨gb207, 6, none⟩ = some (.bool false) := (bC_ BK207.out 6).trans rfl
                        have hcz48_7 : wc.cell? ⟨gb207, 7, none⟩ = some (.int .i64 a1_7) := (bC_ BK207.out 7).trans rfl
                        have hfz48_0 := bF_ BK207.out 0
                        have hfz48_1 := bF_ BK207.out 1
                        have hfz48_2 := bF_ BK207.out 2
                        have hfz48_3 := bF_ BK207.out 3
                        have hfz48_4 := bF_ BK207.out 4
                        have hfz48_5 := bF_ BK207.out 5
                        have hfz48_6 := bF_ BK207.out 6
                        have hfz48_7 := bF_ BK207.out 7
                        go_wp2
                        go_loopg [13] kj40 (fun kq v13 w' => ∃ (x13_4 : Int), v13 = .int .u8 x13_4 ∧ Aside0 (r8_Put.l0 kq ((((Go.bits .and .i64 a0 7) % 256) * 8) % 256) (Go.bits .or .u8 x8_40 ((((a1_3 / 8) % 256) * 2) % 256)) x9_25 x10_25 x11_40 ((Go.bits .and .i64 a1_3 7) % 256) x13_4 a1_0 a1_1 a1_2 a1_3 a1_4 a1_5 false a1_7 = some (r1, r2, r3)) ∧ Aside0 (kq ≤ kj40) ∧ Aside0 (w'.heap[gb207]? = some (.cells #[.int .u8 a1_0, .int .i64 a1_1, .int .i64 a1_2, .int .i64 a1_3, .int .i64 a1_4, .int .i64 a1_5, .bool false, .int .i64 a1_7] 23 (0, 0))) ∧ Aside0 (Below w.heap.size w w'))
                        case atStart => exact ⟨(0), (by first | rfl | (simp; done) | (simp [*]; done)), H', ⟨Nat.le_refl _⟩, ⟨by (with_reducible repeat (first | refine bN_ ?_ _ | refine bD_ ?_ | refine bA_ ?_ _)); exact BK207.out⟩, ⟨by repeat (first | (with_reducible first | exact HB.out | apply bX_ | apply bW_ | apply bY_ | refine bS_ ?_ GE207.out) | exact HB.out)⟩⟩
                        case round =>
                          clear H'
                          (try clear c1); (try clear c2); (try clear p2); (try clear c3); (try clear c4); (try clear c5); (try clear c5b0); (try clear c6); (try clear c6b0); (try clear c10); (try clear c11); (try clear c11b0); (try clear c11b1); (try clear c13); (try clear c16); (try clear c18); (try clear c28); (try clear c28b0); (try clear c31); (try clear c32); (try clear c32b0); (try clear c32b1); (try clear c35); (try clear c36); (try clear c36b0); (try clear c37); (try clear c37b0); (try clear c43); (try clear c43b0); (try clear c47); (try clear c47b0); (try clear p2)
                          obtain ⟨x13_4, rfl, HA, HK4, BK207, HB⟩ := hrel
                          cases gk with
                          | zero => exact absurd HA.out (by simp [r8_Put.l0])
                          | succ k4 =>
                            have H := HA.out
                            clear HA
                            simp only [r8_Put.l0] at H
                            obtain ⟨ji49, hji49⟩ : ∃ j_ : Int, (IntKind.u64.wrap (x13_4)) = j_ := ⟨_, rfl⟩
                            replace H : (if 0 ≤ (ji49) then (if (shl .i64 1 (ji49)) < a1_4 then (r8_Put.l0 k4 ((((Go.bits .and .i64 a0 7) % 256) * 8) % 256) (Go.bits .or .u8 x8_40 ((((a1_3 / 8) % 256) * 2) % 256)) x9_25 x10_25 x11_40 ((Go.bits .and .i64 a1_3 7) % 256) ((x13_4 + 1) % 256) a1_0 a1_1 a1_2 a1_3 a1_4 a1_5 false a1_7) else (r8_Put.j5 k4 ((((Go.bits .and .i64 a0 7) % 256) * 8) % 256) (Go.bits .or .u8 x8_40 ((((a1_3 / 8) % 256) * 2) % 256)) x9_25 x10_25 x11_40 ((Go.bits .and .i64 a1_3 7) % 256) x13_4 a1_0 a1_1 a1_2 a1_3 a1_4 a1_5 false a1_7)) else (none)) = some (r1, r2, r3) := by first | (rw [hji49] at H; exact H) | (simp only [hji49] at H ⊢; exact H)
                            by_cases c50 : 0 ≤ (ji49)
                            · rw [if_pos c50] at H
                              have c50b0 := eq_true c50
                              have c50b1 : decide (0 ≤ (ji49)) = true := decide_eq_true c50
                              clear c50
                              obtain ⟨ji51, hji51⟩ : ∃ j_ : Int, (shl .i64 1 (ji49)) = j_ := ⟨_, rfl⟩
                              replace H : (if (ji51) < a1_4 then (r8_Put.l0 k4 ((((Go.bits .and .i64 a0 7) % 256) * 8) % 256) (Go.bits .or .u8 x8_40 ((((a1_3 / 8) % 256) * 2) % 256)) x9_25 x10_25 x11_40 ((Go.bits .and .i64 a1_3 7) % 256) ((x13_4 + 1) % 256) a1_0 a1_1 a1_2 a1_3 a1_4 a1_5 false a1_7) else (r8_Put.j5 k4 ((((Go.bits .and .i64 a0 7) % 256) * 8) % 256) (Go.bits .or .u8 x8_40 ((((a1_3 / 8) % 256) * 2) % 256)) x9_25 x10_25 x11_40 ((Go.bits .and .i64 a1_3 7) % 256) x13_4 a1_0 a1_1 a1_2 a1_3 a1_4 a1_5 false a1_7)) = some (r1, r2, r3) := by first | (rw [hji51] at H; exact H) | (simp only [hji51] at H ⊢; exact H)
                              have hji51_ : (IntKind.i64.wrap (1 * 2 ^ min (ji49).toNat 64)) = ji51 := hji51
                              have hji51z : (ji49) ≤ 64 → (IntKind.i64.wrap (1 * 2 ^ (ji49).toNat)) = ji51 := shl_small hji51
                              have hji51u : (IntKind.i64.wrap (2 ^ min (ji49).toNat 64)) = ji51 := by have h_ := hji51_; rw [Int.one_mul] at h_; exact h_
                              have hji51v : (ji49) ≤ 64 → (IntKind.i64.wrap (2 ^ (ji49).toNat)) = ji51 := fun hle_ => by have h_ := hji51z hle_; rw [Int.one_mul] at h_; exact h_
                              have hji51y : (wrap64 (1 * 2 ^ min (ji49).toNat 64)) = ji51 := (i64_w _).symm.trans hji51_
                              have hji51x : (ji49) ≤ 64 → (wrap64 (1 * 2 ^ (ji49).toNat)) = ji51 := fun h_ => (i64_w _).symm.trans (hji51z h_)
                              by_cases c52 : (ji51) < a1_4
                              · rw [if_pos c52] at H
                                have c52b0 : decide ((ji51) < a1_4) = true := decide_eq_true c52
                                clear c52
                                have H' := Aside0.mk H
                                clear H
                                have hcz53_0 : wr.cell? ⟨gb207, 0, none⟩ = some (.int .u8 a1_0) := (bC_ BK207.out 0).trans rfl
                                have hcz53_1 : wr.cell? ⟨gb207, 1, none⟩ = some (.int .i64 a1_1) := (bC_ BK207.out 1).trans rfl
                                have hcz53_2 : wr.cell? ⟨gb207, 2, none⟩ = some (.int .i64 a1_2) := (bC_ BK207.out 2).trans rfl
                                have hcz53_3 : wr.cell? ⟨gb207, 3, none⟩ = some (.int .i64 a1_3) := (bC_ BK207.out 3).trans rfl
                                have hcz53_4 : wr.cell? ⟨gb207, 4, none⟩ = some (.int .i64 a1_4) := (bC_ BK207.out 4).trans rfl
                                have hcz53_5 : wr.cell? ⟨gb207, 5, none⟩ = some (.int .i64 a1_5) := (bC_ BK207.out 5).trans rfl
                                have hcz53_6 : wr.cell? ⟨gb207, 6, none⟩ = some (.bool false) := (bC_ BK207.out 6).trans rfl
                                have hcz53_7 : wr.cell? ⟨gb207, 7, none⟩ = some (.int .i64 a1_7) := (bC_ BK207.out 7).trans rfl
                                have hfz53_0 := bF_ BK207.out 0
                                have hfz53_1 := bF_ BK207.out 1
                                have hfz53_2 := bF_ BK207.out 2
                                have hfz53_3 := bF_ BK207.out 3
                                have hfz53_4 := bF_ BK207.out 4
                                have hfz53_5 := bF_ BK207.out 5
                                have hfz53_6 := bF_ BK207.out 6
                                have hfz53_7 := bF_ BK207.out 7
                                go_wp2
                                go_roundg k4
                                case measure => have := HJ2.out; have := HJ25.out; have := HJ40.out; have := HK4.out; omega
                                case rel => exact ⟨((x13_4 + 1) % 256), (by first | rfl | (simp; done) | (simp [*]; done)), H', ⟨by have := HJ2.out; have := HJ25.out; have := HJ40.out; have := HK4.out; omega⟩, ⟨by (with_reducible repeat (first | refine bN_ ?_ _ | refine bD_ ?_ | refine bA_ ?_ _)); exact BK207.out⟩, ⟨by repeat (first | (with_reducible first | exact HB.out | apply bX_ | apply bW_ | apply bY_ | refine bS_ ?_ GE207.out) | exact HB.out)⟩⟩
                              · rw [if_neg c52] at H
                                have c52b0 : decide ((ji51) < a1_4) = false := decide_eq_false c52
                                clear c52
                                have H' := Aside0.mk H
                                clear H
                                have hcz54_0 : wr.cell? ⟨gb207, 0, none⟩ = some (.int .u8 a1_0) := (bC_ BK207.out 0).trans rfl
                                have hcz54_1 : wr.cell? ⟨gb207, 1, none⟩ = some (.int .i64 a1_1) := (bC_ BK207.out 1).trans rfl
                                have hcz54_2 : wr.cell? ⟨gb207, 2, none⟩ = some (.int .i64 a1_2) := (bC_ BK207.out 2).trans rfl
                                have hcz54_3 : wr.cell? ⟨gb207, 3, none⟩ = some (.int .i64 a1_3) := (bC_ BK207.out 3).trans rfl
                                have hcz54_4 : wr.cell? ⟨gb207, 4, none⟩ = some (.int .i64 a1_4) := (bC_ BK207.out 4).trans rfl
                                have hcz54_5 : wr.cell? ⟨gb207, 5, none⟩ = some (.int .i64 a1_5) := (bC_ BK207.out 5).trans rfl
                                have hcz54_6 : wr.cell? ⟨gb207, 6, none⟩ = some (.bool false) := (bC_ BK207.out 6).trans rfl
                                have hcz54_7 : wr.cell? ⟨gb207, 7, none⟩ = some (.int .i64 a1_7) := (bC_ BK207.out 7).trans rfl
                                have hfz54_0 := bF_ BK207.out 0
                                have hfz54_1 := bF_ BK207.out 1
                                have hfz54_2 := bF_ BK207.out 2
                                have hfz54_3 := bF_ BK207.out 3
                                have hfz54_4 := bF_ BK207.out 4
                                have hfz54_5 := bF_ BK207.out 5
                                have hfz54_6 := bF_ BK207.out 6
                                have hfz54_7 := bF_ BK207.out 7
                                go_wp2
                                go_meet
                                case rel => exact ⟨_, ((Go.bits .or .u8 x8_40 ((((a1_3 / 8) % 256) * 2) % 256))), (((Go.bits .and .i64 a1_3 7) % 256)), (x13_4), (by first | rfl | (simp; done) | (simp [*]; done)), (by first | rfl | (simp; done) | (simp [*]; done)), (by first | rfl | (simp; done) | (simp [*]; done)), H', ⟨by have := HJ2.out; have := HJ25.out; have := HJ40.out; have := HK4.out; first | omega | exact Nat.le_refl _⟩, ⟨by (with_reducible repeat (first | refine bN_ ?_ _ | refine bD_ ?_ | refine bA_ ?_ _)); exact BK207.out⟩, ⟨by repeat (first | (with_reducible first | exact HB.out | apply bX_ | apply bW_ | apply bY_ | refine bS_ ?_ GE207.out) | exact HB.out)⟩⟩
                            · rw [if_neg c50] at H
                              exact absurd H (by simp)
                      · rw [if_neg c47] at H
                        have c47b0 : decide (0 ≤ a1_3) = false := decide_eq_false c47
                        clear c47
                        (first | rw [c47b0] | (simp only [i64_w, i32_w]; rw [c47b0]) | skip)
                        have H' := Aside0.mk H
                        clear H
                        go_wp2
                        go_meet
                        case rel => exact ⟨_, (x8_40), (4), (0), (by first | rfl | (simp; done) | (simp [*]; done)), (by first | rfl | (simp; done) | (simp [*]; done)), (by first | rfl | (simp; done) | (simp [*]; done)), H', ⟨by have := HJ2.out; have := HJ25.out; have := HJ40.out; first | omega | exact Nat.le_refl _⟩, ⟨by (with_reducible repeat (first | refine bN_ ?_ _ | refine bD_ ?_ | refine bA_ ?_ _)); exact BK207.out⟩, ⟨by repeat (first | (with_reducible first | exact HB.out | apply bX_ | apply bW_ | apply bY_ | refine bS_ ?_ GE207.out) | exact HB.out)⟩⟩
                    case rest =>
                      clear HC45
                      (try clear c1); (try clear c2); (try clear p2); (try clear c3); (try clear c4); (try clear c5); (try clear c5b0); (try clear c6); (try clear c6b0); (try clear p6); (try clear c10); (try clear c11); (try clear c11b0); (try clear c11b1); (try clear c13); (try clear c16); (try clear c18); (try clear c28); (try clear c28b0); (try clear c31); (try clear c32); (try clear c32b0); (try clear c32b1); (try clear c35); (try clear c36); (try clear c36b0); (try clear c37); (try clear c37b0); (try clear c43); (try clear c43b0); (try clear c47); (try clear c47b0); (try clear c50); (try clear c50b0); (try clear c50b1); (try clear c52); (try clear c52b0); (try clear p2)
                      obtain ⟨kq, x8_44, x12_44, x13_44, rfl, rfl, rfl, HA, HJ44, BK207, HB⟩ := hcut
                      cases kq with
                      | zero => exact absurd HA.out (by simp [r8_Put.j5])
                      | succ kj44 =>
                        have H := HA.out
                        clear HA
                        simp only [r8_Put.j5] at H
                        have HC55 := Aside0.mk H
                        clear H
                        go_upto_region 25 with (fail)
                        go_cut [129] (fun v129 wc => ∃ (kq : Nat) (x129_54 : Bool), v129 = .bool x129_54 ∧ Aside0 (r8_Put.j6 kq ((((Go.bits .and .i64 a0 7) % 256) * 8) % 256) x8_44 x9_25 x10_25 x11_40 x12_44 x13_44 x129_54 a1_0 a1_1 a1_2 a1_3 a1_4 a1_5 false a1_7 = some (r1, r2, r3)) ∧ Aside0 (kq ≤ kj44) ∧ Aside0 (wc.heap[gb207]? = some (.cells #[.int .u8 a1_0, .int .i64 a1_1, .int .i64 a1_2, .int .i64 a1_3, .int .i64 a1_4, .int .i64 a1_5, .bool false, .int .i64 a1_7] 23 (0, 0))) ∧ Aside0 (Below w.heap.size w wc))
                        case first =>
                          have H := HC55.out
                          clear HC55
                          by_cases c56 : a1_3 < 0
                          · rw [if_pos c56] at H
                            have c56b0 : decide (a1_3 < 0) = true := decide_eq_true c56
                            clear c56
                            (first | rw [c56b0] | (simp only [i64_w, i32_w]; rw [c56b0]) | skip)
                            by_cases c57 : a1_2 ≥ 0
                            · rw [if_pos c57] at H
                              have c57b0 : decide (0 ≤ a1_2) = true := decide_eq_true c57
                              clear c57
                              have H' := Aside0.mk H
                              clear H
                              have hcz58_0 : wc.cell? ⟨gb207, 0, none⟩ = some (.int .u8 a1_0) := (bC_ BK207.out 0).trans rfl
                              have hcz58_1 : wc.cell? ⟨gb207, 1, none⟩ = some (.int .i64 a1_1) := (bC_ BK207.out 1).trans rfl
                              have hcz58_2 : wc.cell? ⟨gb207, 2, none⟩ = some (.int .i64 a1_2) := (bC_ BK207.out 2).trans rfl
                              have hcz58_3 : wc.cell? ⟨gb207, 3, none⟩ = some (.int .i64 a1_3) := (bC_ BK207.out 3).trans rfl
                              have hcz58_4 : wc.cell? ⟨gb207, 4, none⟩ = some (.int .i64 a1_4) := (bC_ BK207.out 4).trans rfl
                              have hcz58_5 : wc.cell? ⟨gb207, 5, none⟩ = some (.int .i64 a1_5) := (bC_ BK207.out 5).trans rfl
                              have hcz58_6 : wc.cell? ⟨gb207, 6, none⟩ = some (.bool false) := (bC_ BK207.out 6).trans rfl
                              have hcz58_7 : wc.cell? ⟨gb207, 7, none⟩ = some (.int .i64 a1_7) := (bC_ BK207.out 7).trans rfl
                              have hfz58_0 := bF_ BK207.out 0
                              have hfz58_1 := bF_ BK207.out 1
                              have hfz58_2 := bF_ BK207.out 2
                              have hfz58_3 := bF_ BK207.out 3
                              have hfz58_4 := bF_ BK207.out 4
                              have hfz58_5 := bF_ BK207.out 5
                              have hfz58_6 := bF_ BK207.out 6
                              have hfz58_7 := bF_ BK207.out 7
                              go_wp2
                              go_meet
                              case rel => exact ⟨_, ((x11_40 != 4)), (by first | rfl | (simp; done) | (simp [*]; done)), H', ⟨by have := HJ2.out; have := HJ25.out; have := HJ40.out; have := HJ44.out; first | omega | exact Nat.le_refl _⟩, ⟨by (with_reducible repeat (first | refine bN_ ?_ _ | refine bD_ ?_ | refine bA_ ?_ _)); exact BK207.out⟩, ⟨by repeat (first | (with_reducible first | exact HB.out | apply bX_ | apply bW_ | apply bY_ | refine bS_ ?_ GE207.out) | exact HB.out)⟩⟩
                            · rw [if_neg c57] at H
                              have c57b0 : decide (0 ≤ a1_2) = false := decide_eq_false c57
                              clear c57
                              have H' := Aside0.mk H
                              clear H
                              have hcz59_0 : wc.cell? ⟨gb207, 0, none⟩ = some (.int .u8 a1_0) := (bC_ BK207.out 0).trans rfl
                              have hcz59_1 : wc.cell? ⟨gb207, 1, none⟩ = some (.int .i64 a1_1) := (bC_ BK207.out 1).trans rfl
                              have hcz59_2 : wc.cell? ⟨gb207, 2, none⟩ = some (.int .i64 a1_2) := (bC_ BK207.out 2).trans rfl
                              have hcz59_3 : wc.cell? ⟨gb207, 3, none⟩ = some (.int .i64 a1_3) := (bC_ BK207.out 3).trans rfl
                              have hcz59_4 : wc.cell? ⟨gb207, 4, none⟩ = some (.int .i64 a1_4) := (bC_ BK207.out 4).trans rfl
                              have hcz59_5 : wc.cell? ⟨gb207, 5, none⟩ = some (.int .i64 a1_5) := (bC_ BK207.out 5).trans rfl
                              have hcz59_6 : wc.cell? ⟨gb207, 6, none⟩ = some (.bool false) := (bC_ BK207.out 6).trans rfl
                              have hcz59_7 : wc.cell? ⟨gb207, 7, none⟩ = some (.int .i64 a1_7) := (bC_ BK207.out 7).trans rfl
                              have hfz59_0 := bF_ BK207.out 0
                              have hfz59_1 := bF_ BK207.out 1
                              have hfz59_2 := bF_ BK207.out 2
                              have hfz59_3 := bF_ BK207.out 3
                              have hfz59_4 := bF_ BK207.out 4
                              have hfz59_5 := bF_ BK207.out 5
                              have hfz59_6 := bF_ BK207.out 6
                              have hfz59_7 := bF_ BK207.out 7
                              go_wp2
                              go_meet
                              case rel => exact ⟨_, (false), (by first | rfl | (simp; done) | (simp [*]; done)), H', ⟨by have := HJ2.out; have := HJ25.out; have := HJ40.out; have := HJ44.out; first | omega | exact Nat.le_refl _⟩, ⟨by (with_reducible repeat (first | refine bN_ ?_ _ | refine bD_ ?_ | refine bA_ ?_ _)); exact BK207.out⟩, ⟨by repeat (first | (with_reducible first | exact HB.out | apply bX_ | apply bW_ | apply bY_ | refine bS_ ?_ GE207.out) | exact HB.out)⟩⟩
                          · rw [if_neg c56] at H
                            have c56b0 : decide (a1_3 < 0) = false := decide_eq_false c56
                            clear c56
                            (first | rw [c56b0] | (simp only [i64_w, i32_w]; rw [c56b0]) | skip)
                            have H' := Aside0.mk H
                            clear H
                            have hcz60_0 : wc.cell? ⟨gb207, 0, none⟩ = some (.int .u8 a1_0) := (bC_ BK207.out 0).trans rfl
                            have hcz60_1 : wc.cell? ⟨gb207, 1, none⟩ = some (.int .i64 a1_1) := (bC_ BK207.out 1).trans rfl
                            have hcz60_2 : wc.cell? ⟨gb207, 2, none⟩ = some (.int .i64 a1_2) := (bC_ BK207.out 2).trans rfl
                            have hcz60_3 : wc.cell? ⟨gb207, 3, none⟩ = some (.int .i64 a1_3) := (bC_ BK207.out 3).trans rfl
                            have hcz60_4 : wc.cell? ⟨gb207, 4, none⟩ = some (.int .i64 a1_4) := (bC_ BK207.out 4).trans rfl
                            have hcz60_5 : wc.cell? ⟨gb207, 5, none⟩ = some (.int .i64 a1_5) := (bC_ BK207.out 5).trans rfl
                            have hcz60_6 : wc.cell? ⟨gb207, 6, none⟩ = some (.bool false) := (bC_ BK207.out 6).trans rfl
                            have hcz60_7 : wc.cell? ⟨gb207, 7, none⟩ = some (.int .i64 a1_7) := (bC_ BK207.out 7).trans rfl
                            have hfz60_0 := bF_ BK207.out 0
                            have hfz60_1 := bF_ BK207.out 1
                            have hfz60_2 := bF_ BK207.out 2
                            have hfz60_3 := bF_ BK207.out 3
                            have hfz60_4 := bF_ BK207.out 4
                            have hfz60_5 := bF_ BK207.out 5
                            have hfz60_6 := bF_ BK207.out 6
                            have hfz60_7 := bF_ BK207.out 7
                            go_wp2
                            go_meet
                            case rel => exact ⟨_, (false), (by first | rfl | (simp; done) | (simp [*]; done)), H', ⟨by have := HJ2.out; have := HJ25.out; have := HJ40.out; have := HJ44.out; first | omega | exact Nat.le_refl _⟩, ⟨by (with_reducible repeat (first | refine bN_ ?_ _ | refine bD_ ?_ | refine bA_ ?_ _)); exact BK207.out⟩, ⟨by repeat (first | (with_reducible first | exact HB.out | apply bX_ | apply bW_ | apply bY_ | refine bS_ ?_ GE207.out) | exact HB.out)⟩⟩
                        case rest =>
                          clear HC55
                          (try clear c1); (try clear c2); (try clear p2); (try clear c3); (try clear c4); (try clear c5); (try clear c5b0); (try clear c6); (try clear c6b0); (try clear p6); (try clear c10); (try clear c11); (try clear c11b0); (try clear c11b1); (try clear c13); (try clear c16); (try clear c18); (try clear c28); (try clear c28b0); (try clear c31); (try clear c32); (try clear c32b0); (try clear c32b1); (try clear c35); (try clear c36); (try clear c36b0); (try clear c37); (try clear c37b0); (try clear c43); (try clear c43b0); (try clear c47); (try clear c47b0); (try clear c50); (try clear c50b0); (try clear c50b1); (try clear c52); (try clear c52b0); (try clear c56); (try clear c56b0); (try clear c57); (try clear c57b0); (try clear p2); (try clear p6)
                          obtain ⟨kq, x129_54, rfl, HA, HJ54, BK207, HB⟩ := hcut
                          cases kq with
                          | zero => exact absurd HA.out (by simp [r8_Put.j6])
                          | succ kj54 =>
                            have H := HA.out
                            clear HA
                            simp only [r8_Put.j6] at H
                            by_cases c61 : x129_54 = true
                            · subst c61
                              have H1 : ((some (([Go.bits .or .u8 (Go.bits .or .u8 ((x9_25 * 64) % 256) ((((Go.bits .and .i64 a0 7) % 256) * 8) % 256)) x11_40] : List Int) : List Int)).bind fun y221 => ((r8_shown.f kj54 a1_5 x10_25).bind fun t224 => (if y221.length + t224.length < 140737488355328 then (some ((y221 ++ t224), x8_44, 0)) else (none)))) = some (r1, r2, r3) := by rw [if_pos rfl] at H; exact H
                              clear H
                              have H := H1
                              clear H1
                              obtain ⟨y221, hy221⟩ : ∃ y_ : List Int, y_ = (([Go.bits .or .u8 (Go.bits .or .u8 ((x9_25 * 64) % 256) ((((Go.bits .and .i64 a0 7) % 256) * 8) % 256)) x11_40] : List Int)) := ⟨_, rfl⟩
                              replace H : ((r8_shown.f kj54 a1_5 x10_25).bind fun t224 => (if y221.length + t224.length < 140737488355328 then (some ((y221 ++ t224), x8_44, 0)) else (none))) = some (r1, r2, r3) := by first | (rw [hy221]; with_reducible exact H) | (have H2_ := (Option.bind_some _ _).symm.trans H; rw [hy221]; with_reducible exact H2_) | (have H2_ := (Option.bind_some _ _).symm.trans H; with_reducible exact H2_) | with_reducible exact H | (rw [hy221]; exact H) | exact H
                              have Ny221 := Aside0.mk hy221
                              clear hy221
                              replace H := Option.bind_eq_some_iff.mp H
                              obtain ⟨t224, A620, H⟩ := H
                              replace H : (if y221.length + t224.length < 140737488355328 then (some ((y221 ++ t224), x8_44, 0)) else (none)) = some (r1, r2, r3) := H
                              have A62 := Aside0.mk A620
                              clear A620
                              by_cases c63 : y221.length + t224.length < 140737488355328
                              · rw [if_pos c63] at H
                                have LMc63 := Aside0.mk c63
                                clear c63
                                obtain ⟨y227, hy227⟩ : ∃ y_ : List Int, y_ = (y221 ++ t224) := ⟨_, rfl⟩
                                replace H : (some (y227, x8_44, 0)) = some (r1, r2, r3) := by first | (rw [hy227]; with_reducible exact H) | (have H2_ := (Option.bind_some _ _).symm.trans H; rw [hy227]; with_reducible exact H2_) | (have H2_ := (Option.bind_some _ _).symm.trans H; with_reducible exact H2_) | with_reducible exact H | (rw [hy227]; exact H) | exact H
                                have Ny227 := Aside0.mk hy227
                                clear hy227
                                simp only [Option.some.injEq, Prod.mk.injEq] at H
                                obtain ⟨rfl, rfl, rfl⟩ := H
                                go_wp2_with (first | ((with_reducible refine gate_dst (N := 136) rfl ?_); refine Kd.R_lit (Kd.int .u8) _ 5 ?hg (N := 136) ?hd (xs := ([Go.bits .or .u8 (Go.bits .or .u8 ((x9_25 * 64) % 256) ((((Go.bits .and .i64 a0 7) % 256) * 8) % 256)) x11_40] : List Int)) (inner := [.int .u8 (Go.bits .or .u8 (Go.bits .or .u8 ((x9_25 * 64) % 256) ((((Go.bits .and .i64 a0 7) % 256) * 8) % 256)) x11_40)]) (ok := fun _ => True) (okp := fun _ => True) ?hr ?hp (fun _ hk => hk) trivial (Below.refl _ _) (Nat.le_refl _) (by simp) ?_; (case hd => rfl); (case hg => rfl); (case hr => first | (go_simp; done) | (go_simp; rfl)); (case hp => exact (Reps.one (show Kd.M (Kd.int .u8) _ _ _ (Go.bits .or .u8 (Go.bits .or .u8 ((x9_25 * 64) % 256) ((((Go.bits .and .i64 a0 7) % 256) * 8) % 256)) x11_40) [.int .u8 (Go.bits .or .u8 (Go.bits .or .u8 ((x9_25 * 64) % 256) ((((Go.bits .and .i64 a0 7) % 256) * 8) % 256)) x11_40)] from rfl) (Reps.none _ _))); intro v222 w64 ho65 hb hg_ hnew_; clear hg_ hnew_; (first | rw [← Ny221.out] at ho65 | (simp only [Int.reduceToNat] at ho65; rw [← Ny221.out] at ho65)); have n0_ := Aside0.mk (Kd.R_lower ho65 (below_size (by repeat (first | (with_reducible first | exact HB.out | apply bX_ | apply bW_ | apply bY_ | refine bS_ ?_ GE207.out) | exact HB.out)))); have n1_ := Aside0.mk (blk_below (g := gb207) (o := .cells #[.int .u8 a1_0, .int .i64 a1_1, .int .i64 a1_2, .int .i64 a1_3, .int .i64 a1_4, .int .i64 a1_5, .bool false, .int .i64 a1_7] 23 (0, 0)) (by (with_reducible repeat (first | refine bN_ ?_ _ | refine bD_ ?_ | refine bA_ ?_ _)); exact BK207.out) hb); have n2_ := Aside0.mk (below_step (by repeat (first | (with_reducible first | exact HB.out | apply bX_ | apply bW_ | apply bY_ | refine bS_ ?_ GE207.out) | exact HB.out)) hb); clear BK207; clear HB; have HO223 := n0_; have BK207 := n1_; have HB := n2_; clear n0_ n1_ n2_; clear hb ho65; have hcz66_0 : w64.cell? ⟨gb207, 0, none⟩ = some (.int .u8 a1_0) := (bC_ BK207.out 0).trans rfl; have hcz66_1 : w64.cell? ⟨gb207, 1, none⟩ = some (.int .i64 a1_1) := (bC_ BK207.out 1).trans rfl; have hcz66_2 : w64.cell? ⟨gb207, 2, none⟩ = some (.int .i64 a1_2) := (bC_ BK207.out 2).trans rfl; have hcz66_3 : w64.cell? ⟨gb207, 3, none⟩ = some (.int .i64 a1_3) := (bC_ BK207.out 3).trans rfl; have hcz66_4 : w64.cell? ⟨gb207, 4, none⟩ = some (.int .i64 a1_4) := (bC_ BK207.out 4).trans rfl; have hcz66_5 : w64.cell? ⟨gb207, 5, none⟩ = some (.int .i64 a1_5) := (bC_ BK207.out 5).trans rfl; have hcz66_6 : w64.cell? ⟨gb207, 6, none⟩ = some (.bool false) := (bC_ BK207.out 6).trans rfl; have hcz66_7 : w64.cell? ⟨gb207, 7, none⟩ = some (.int .i64 a1_7) := (bC_ BK207.out 7).trans rfl; have hfz66_0 := bF_ BK207.out 0; have hfz66_1 := bF_ BK207.out 1; have hfz66_2 := bF_ BK207.out 2; have hfz66_3 := bF_ BK207.out 3; have hfz66_4 := bF_ BK207.out 4; have hfz66_5 := bF_ BK207.out 5; have hfz66_6 := bF_ BK207.out 6; have hfz66_7 := bF_ BK207.out 7) | ((with_reducible refine gate_callee (f := 31) rfl ?_); refine goesL_ (some 140) rfl rfl Tryd.func31 (by kernel_rfl) rfl #[.int .i64 a1_5, .int .i64 x10_25] rfl (by (try simp only [List.map_toArray, List.map_cons, List.map_nil]); first | done | rfl | (simp only [List.length_drop, List.length_take]; rfl)) ?_; (with_reducible refine (r8_shown.calls kj54 a1_5 x10_25 t224 _ A62.out).mono ?_); rintro e w67 ⟨v225, rfl, ho0, hb⟩; refine ⟨_, rfl, ?_⟩; have n0_ := Aside0.mk (Kd.R_elder' (by (with_reducible repeat (first | apply Kd.R_alloc | apply Kd.R_drewN | apply Kd.R_drew)); exact HO223.out) (by first | exact Kd.R_base ho0 | exact Kd.R_base (Kd.S_R ho0) | exact Kd.R_base ho0) hb); have n1_ := Aside0.mk (Kd.R_lower (Kd.R_new' ho0 (Kd.R_lt (by (with_reducible repeat (first | apply Kd.R_alloc | apply Kd.R_drewN | apply Kd.R_drew)); exact HO223.out))) (below_size (by repeat (first | (with_reducible first | exact HB.out | apply bX_ | apply bW_ | apply bY_ | refine bS_ ?_ GE207.out) | exact HB.out)))); have n2_ := Aside0.mk (blk_below (g := gb207) (o := .cells #[.int .u8 a1_0, .int .i64 a1_1, .int .i64 a1_2, .int .i64 a1_3, .int .i64 a1_4, .int .i64 a1_5, .bool false, .int .i64 a1_7] 23 (0, 0)) (by (with_reducible repeat (first | refine bN_ ?_ _ | refine bD_ ?_ | refine bA_ ?_ _)); exact BK207.out) hb); have n3_ := Aside0.mk (below_step (by repeat (first | (with_reducible first | exact HB.out | apply bX_ | apply bW_ | apply bY_ | refine bS_ ?_ GE207.out) | exact HB.out)) hb); clear HO223; clear BK207; clear HB; have HO223 := n0_; have HO226 := n1_; have BK207 := n2_; have HB := n3_; clear n0_ n1_ n2_ n3_; (try clear hb); (try clear hb2); (try clear hk); (try clear hi); (try clear ho0); obtain ⟨Ao69, co69, eo69⟩ := Kd.R_slice HO226.out; subst eo69) | ((with_reducible refine gate_builtin (b := .append) (xs := #[.tmp 136, .tmp 140]) rfl ?_); at_builtin; refine Kd.R_append_rows (Kd.int .u8) (w0 := w) w.heap.size rfl (.tmp 136) (.tmp 140) 24 5 (.int .u8 0) 1 rfl Tryd.underlying24 info5 rfl (by decide) (by omega) v222 y221 t224 _ _ _ (fun k_ => some k_ ≠ (.slice Ao69 t224.length co69 : Value).ownBlock) (fun _ => False) rfl rfl ?aO ?aR (fun _ _ h => h) (fun _ h => h.elim) ?aF ?aB ?aS ?aL ?_; (case aR => repeat (first | exact (Kd.R_reads' HO226.out).2.2 | (with_reducible refine Kd.C_alloc ?_ _) | (with_reducible refine Kd.C_drewN ?_ _) | (with_reducible refine Kd.C_drew ?_))); (case aB => exact (by repeat (first | (with_reducible first | exact HB.out | apply bX_ | apply bW_ | apply bY_ | refine bS_ ?_ GE207.out) | exact HB.out))); (case aF => exact (fun k_ hk => Kd.fresh' (Kd.R_lt (by (with_reducible repeat (first | apply Kd.R_alloc | apply Kd.R_drewN | apply Kd.R_drew)); exact HO226.out)) k_ hk)); (case aO => exact (by (with_reducible repeat (first | apply Kd.R_alloc | apply Kd.R_drewN | apply Kd.R_drew)); exact Kd.R_mono HO223.out (fun _ hk => hk.2))); (case aS => exact (below_size (by repeat (first | (with_reducible first | exact HB.out | apply bX_ | apply bW_ | apply bY_ | refine bS_ ?_ GE207.out) | exact HB.out)))); (case aL => have := LMc63.out; omega); intro v228 w68 ho hb hg hat; rw [← Ny227.out] at ho; have n0_ := Aside0.mk (blk_grown (g := gb207) (o := .cells #[.int .u8 a1_0, .int .i64 a1_1, .int .i64 a1_2, .int .i64 a1_3, .int .i64 a1_4, .int .i64 a1_5, .bool false, .int .i64 a1_7] 23 (0, 0)) (by (with_reducible repeat (first | refine bN_ ?_ _ | refine bD_ ?_ | refine bA_ ?_ _)); exact BK207.out) hg (Kd.R_ne HO223.out BK207.out (by decide))); have n1_ := Aside0.mk (Kd.R_after (ok := (fun _ => True)) (by (with_reducible repeat (first | apply Kd.R_alloc | apply Kd.R_drewN | apply Kd.R_drew)); exact HO226.out) hg hat); have n2_ := Aside0.mk (hb); have n3_ := Aside0.mk (ho); clear BK207; clear HO226; clear HB; clear HO223; have BK207 := n0_; have HO226 := n1_; have HB := n2_; have HO229 := n3_; clear n0_ n1_ n2_ n3_; clear ho hb hg hat))
                                go_ret3
                                exact ⟨_, by first | rfl | (simp [errW_none, errW_some] <;> rfl) | (simp [*, errW_none, errW_some] <;> rfl), by (with_reducible repeat (first | apply Kd.R_alloc | apply Kd.R_drewN | apply Kd.R_drew)); exact Kd.R_mono HO229.out (fun _ hk => trivial), by repeat (first | (with_reducible first | exact HB.out | apply bX_ | apply bW_ | apply bY_ | refine bS_ ?_ GE207.out) | exact HB.out)⟩
                              · rw [if_neg c63] at H
                                exact absurd H (by simp)
                            · replace c61 := Bool.eq_false_iff.mpr c61
                              subst c61
                              have H1 : ((some (([Go.bits .or .u8 (Go.bits .or .u8 ((x9_25 * 64) % 256) ((((Go.bits .and .i64 a0 7) % 256) * 8) % 256)) 4, Go.bits .or .u8 (Go.bits .or .u8 ((x13_44 * 64) % 256) ((x12_44 * 8) % 256)) x11_40] : List Int) : List Int)).bind fun y230 => ((r8_shown.f kj54 a1_5 x10_25).bind fun t233 => (if y230.length + t233.length < 140737488355328 then (some ((y230 ++ t233), x8_44, 0)) else (none)))) = some (r1, r2, r3) := by rw [if_neg (show ¬ (false = true) by decide)] at H; exact H
                              clear H
                              have H := H1
                              clear H1
                              obtain ⟨y230, hy230⟩ : ∃ y_ : List Int, y_ = (([Go.bits .or .u8 (Go.bits .or .u8 ((x9_25 * 64) % 256) ((((Go.bits .and .i64 a0 7) % 256) * 8) % 256)) 4, Go.bits .or .u8 (Go.bits .or .u8 ((x13_44 * 64) % 256) ((x12_44 * 8) % 256)) x11_40] : List Int)) := ⟨_, rfl⟩
                              replace H : ((r8_shown.f kj54 a1_5 x10_25).bind fun t233 => (if y230.length + t233.length < 140737488355328 then (some ((y230 ++ t233), x8_44, 0)) else (none))) = some (r1, r2, r3) := by first | (rw [hy230]; with_reducible exact H) | (have H2_ := (Option.bind_some _ _).symm.trans H; rw [hy230]; with_reducible exact H2_) | (have H2_ := (Option.bind_some _ _).symm.trans H; with_reducible exact H2_) | with_reducible exact H | (rw [hy230]; exact H) | exact H
                              have Ny230 := Aside0.mk hy230
                              clear hy230
                              replace H := Option.bind_eq_some_iff.mp H
                              obtain ⟨t233, A700, H⟩ := H
                              replace H : (if y230.length + t233.length < 140737488355328 then (some ((y230 ++ t233), x8_44, 0)) else (none)) = some (r1, r2, r3) := H
                              have A70 := Aside0.mk A700
                              clear A700
                              by_cases c71 : y230.length + t233.length < 140737488355328
                              · rw [if_pos c71] at H
                                have LMc71 := Aside0.mk c71
                                clear c71
                                obtain ⟨y236, hy236⟩ : ∃ y_ : List Int, y_ = (y230 ++ t233) := ⟨_, rfl⟩
                                replace H : (some (y236, x8_44, 0)) = some (r1, r2, r3) := by first | (rw [hy236]; with_reducible exact H) | (have H2_ := (Option.bind_some _ _).symm.trans H; rw [hy236]; with_reducible exact H2_) | (have H2_ := (Option.bind_some _ _).symm.trans H; with_reducible exact H2_) | with_reducible exact H | (rw [hy236]; exact H) | exact H
                                have Ny236 := Aside0.mk hy236
                                clear hy236
                                simp only [Option.some.injEq, Prod.mk.injEq] at H
                                obtain ⟨rfl, rfl, rfl⟩ := H
                                go_wp2_with (first | ((with_reducible refine gate_dst (N := 155) rfl ?_); refine Kd.R_lit (Kd.int .u8) _ 5 ?hg (N := 155) ?hd (xs := ([Go.bits .or .u8 (Go.bits .or .u8 ((x9_25 * 64) % 256) ((((Go.bits .and .i64 a0 7) % 256) * 8) % 256)) 4, Go.bits .or .u8 (Go.bits .or .u8 ((x13_44 * 64) % 256) ((x12_44 * 8) % 256)) x11_40] : List Int)) (inner := [.int .u8 (Go.bits .or .u8 (Go.bits .or .u8 ((x9_25 * 64) % 256) ((((Go.bits .and .i64 a0 7) % 256) * 8) % 256)) 4), .int .u8 (Go.bits .or .u8 (Go.bits .or .u8 ((x13_44 * 64) % 256) ((x12_44 * 8) % 256)) x11_40)]) (ok := fun _ => True) (okp := fun _ => True) ?hr ?hp (fun _ hk => hk) trivial (Below.refl _ _) (Nat.le_refl _) (by simp) ?_; (case hd => rfl); (case hg => rfl); (case hr => first | (go_simp; done) | (go_simp; rfl)); (case hp => exact (Reps.one (show Kd.M (Kd.int .u8) _ _ _ (Go.bits .or .u8 (Go.bits .or .u8 ((x9_25 * 64) % 256) ((((Go.bits .and .i64 a0 7) % 256) * 8) % 256)) 4) [.int .u8 (Go.bits .or .u8 (Go.bits .or .u8 ((x9_25 * 64) % 256) ((((Go.bits .and .i64 a0 7) % 256) * 8) % 256)) 4)] from rfl) (Reps.one (show Kd.M (Kd.int .u8) _ _ _ (Go.bits .or .u8 (Go.bits .or .u8 ((x13_44 * 64) % 256) ((x12_44 * 8) % 256)) x11_40) [.int .u8 (Go.bits .or .u8 (Go.bits .or .u8 ((x13_44 * 64) % 256) ((x12_44 * 8) % 256)) x11_40)] from rfl) (Reps.none _ _)))); intro v231 w72 ho73 hb hg_ hnew_; clear hg_ hnew_; (first | rw [← Ny230.out] at ho73 | (simp only [Int.reduceToNat] at ho73; rw [← Ny230.out] at ho73)); have n0_ := Aside0.mk (Kd.R_lower ho73 (below_size (by repeat (first | (with_reducible first | exact HB.out | apply bX_ | apply bW_ | apply bY_ | refine bS_ ?_ GE207.out) | exact HB.out)))); have n1_ := Aside0.mk (blk_below (g := gb207) (o := .cells #[.int .u8 a1_0, .int .i64 a1_1, .int .i64 a1_2, .int .i64 a1_3, .int .i64 a1_4, .int .i64 a1_5, .bool false, .int .i64 a1_7] 23 (0, 0)) (by (with_reducible repeat (first | refine bN_ ?_ _ | refine bD_ ?_ | refine bA_ ?_ _)); exact BK207.out) hb); have n2_ := Aside0.mk (below_step (by repeat (first | (with_reducible first | exact HB.out | apply bX_ | apply bW_ | apply bY_ | refine bS_ ?_ GE207.out) | exact HB.out)) hb); clear BK207; clear HB; have HO232 := n0_; have BK207 := n1_; have HB := n2_; clear n0_ n1_ n2_; clear hb ho73; have hcz74_0 : w72.cell? ⟨gb207, 0, none⟩ = some (.int .u8 a1_0) := (bC_ BK207.out 0).trans rfl; have hcz74_1 : w72.cell? ⟨gb207, 1, none⟩ = some (.int .i64 a1_1) := (bC_ BK207.out 1).trans rfl; have hcz74_2 : w72.cell? ⟨gb207, 2, none⟩ = some (.int .i64 a1_2) := (bC_ BK207.out 2).trans rfl; have hcz74_3 : w72.cell? ⟨gb207, 3, none⟩ = some (.int .i64 a1_3) := (bC_ BK207.out 3).trans rfl; have hcz74_4 : w72.cell? ⟨gb207, 4, none⟩ = some (.int .i64 a1_4) := (bC_ BK207.out 4).trans rfl; have hcz74_5 : w72.cell? ⟨gb207, 5, none⟩ = some (.int .i64 a1_5) := (bC_ BK207.out 5).trans rfl; have hcz74_6 : w72.cell? ⟨gb207, 6, none⟩ = some (.bool false) := (bC_ BK207.out 6).trans rfl; have hcz74_7 : w72.cell? ⟨gb207, 7, none⟩ = some (.int .i64 a1_7) := (bC_ BK207.out 7).trans rfl; have hfz74_0 := bF_ BK207.out 0; have hfz74_1 := bF_ BK207.out 1; have hfz74_2 := bF_ BK207.out 2; have hfz74_3 := bF_ BK207.out 3; have hfz74_4 := bF_ BK207.out 4; have hfz74_5 := bF_ BK207.out 5; have hfz74_6 := bF_ BK207.out 6; have hfz74_7 := bF_ BK207.out 7) | ((with_reducible refine gate_callee (f := 31) rfl ?_); refine goesL_ (some 159) rfl rfl Tryd.func31 (by kernel_rfl) rfl #[.int .i64 a1_5, .int .i64 x10_25] rfl (by (try simp only [List.map_toArray, List.map_cons, List.map_nil]); first | done | rfl | (simp only [List.length_drop, List.length_take]; rfl)) ?_; (with_reducible refine (r8_shown.calls kj54 a1_5 x10_25 t233 _ A70.out).mono ?_); rintro e w75 ⟨v234, rfl, ho0, hb⟩; refine ⟨_, rfl, ?_⟩; have n0_ := Aside0.mk (Kd.R_elder' (by (with_reducible repeat (first | apply Kd.R_alloc | apply Kd.R_drewN | apply Kd.R_drew)); exact HO232.out) (by first | exact Kd.R_base ho0 | exact Kd.R_base (Kd.S_R ho0) | exact Kd.R_base ho0) hb); have n1_ := Aside0.mk (Kd.R_lower (Kd.R_new' ho0 (Kd.R_lt (by (with_reducible repeat (first | apply Kd.R_alloc | apply Kd.R_drewN | apply Kd.R_drew)); exact HO232.out))) (below_size (by repeat (first | (with_reducible first | exact HB.out | apply bX_ | apply bW_ | apply bY_ | refine bS_ ?_ GE207.out) | exact HB.out)))); have n2_ := Aside0.mk (blk_below (g := gb207) (o := .cells #[.int .u8 a1_0, .int .i64 a1_1, .int .i64 a1_2, .int .i64 a1_3, .int .i64 a1_4, .int .i64 a1_5, .bool false, .int .i64 a1_7] 23 (0, 0)) (by (with_reducible repeat (first | refine bN_ ?_ _ | refine bD_ ?_ | refine bA_ ?_ _)); exact BK207.out) hb); have n3_ := Aside0.mk (below_step (by repeat (first | (with_reducible first | exact HB.out | apply bX_ | apply bW_ | apply bY_ | refine bS_ ?_ GE207.out) | exact HB.out)) hb); clear HO232; clear BK207; clear HB; have HO232 := n0_; have HO235 := n1_; have BK207 := n2_; have HB := n3_; clear n0_ n1_ n2_ n3_; (try clear hb); (try clear hb2); (try clear hk); (try clear hi); (try clear ho0); obtain ⟨Ao77, co77, eo77⟩ := Kd.R_slice HO235.out; subst eo77) | ((with_reducible refine gate_builtin (b := .append) (xs := #[.tmp 155, .tmp 159]) rfl ?_); at_builtin; refine Kd.R_append_rows (Kd.int .u8) (w0 := w) w.heap.size rfl (.tmp 155) (.tmp 159) 24 5 (.int .u8 0) 1 rfl Tryd.underlying24 info5 rfl (by decide) (by omega) v231 y230 t233 _ _ _ (fun k_ => some k_ ≠ (.slice Ao77 t233.length co77 : Value).ownBlock) (fun _ => False) rfl rfl ?aO ?aR (fun _ _ h => h) (fun _ h => h.elim) ?aF ?aB ?aS ?aL ?_; (case aR => repeat (first | exact (Kd.R_reads' HO235.out).2.2 | (with_reducible refine Kd.C_alloc ?_ _) | (with_reducible refine Kd.C_drewN ?_ _) | (with_reducible refine Kd.C_drew ?_))); (case aB => exact (by repeat (first | (with_reducible first | exact HB.out | apply bX_ | apply bW_ | apply bY_ | refine bS_ ?_ GE207.out) | exact HB.out))); (case aF => exact (fun k_ hk => Kd.fresh' (Kd.R_lt (by (with_reducible repeat (first | apply Kd.R_alloc | apply Kd.R_drewN | apply Kd.R_drew)); exact HO235.out)) k_ hk)); (case aO => exact (by (with_reducible repeat (first | apply Kd.R_alloc | apply Kd.R_drewN | apply Kd.R_drew)); exact Kd.R_mono HO232.out (fun _ hk => hk.2))); (case aS => exact (below_size (by repeat (first | (with_reducible first | exact HB.out | apply bX_ | apply bW_ | apply bY_ | refine bS_ ?_ GE207.out) | exact HB.out)))); (case aL => have := LMc71.out; omega); intro v237 w76 ho hb hg hat; rw [← Ny236.out] at ho; have n0_ := Aside0.mk (blk_grown (g := gb207) (o := .cells #[.int .u8 a1_0, .int .i64 a1_1, .int .i64 a1_2, .int .i64 a1_3, .int .i64 a1_4, .int .i64 a1_5, .bool false, .int .i64 a1_7] 23 (0, 0)) (by (with_reducible repeat (first | refine bN_ ?_ _ | refine bD_ ?_ | refine bA_ ?_ _)); exact BK207.out) hg (Kd.R_ne HO232.out BK207.out (by decide))); have n1_ := Aside0.mk (Kd.R_after (ok := (fun _ => True)) (by (with_reducible repeat (first | apply Kd.R_alloc | apply Kd.R_drewN | apply Kd.R_drew)); exact HO235.out) hg hat); have n2_ := Aside0.mk (hb); have n3_ := Aside0.mk (ho); clear BK207; clear HO235; clear HB; clear HO232; have BK207 := n0_; have HO235 := n1_; have HB := n2_; have HO238 := n3_; clear n0_ n1_ n2_ n3_; clear ho hb hg hat))
                                go_ret3
                                exact ⟨_, by first | rfl | (simp [errW_none, errW_some] <;> rfl) | (simp [*, errW_none, errW_some] <;> rfl), by (with_reducible repeat (first | apply Kd.R_alloc | apply Kd.R_drewN | apply Kd.R_drew)); exact Kd.R_mono HO238.out (fun _ hk => trivial), by repeat (first | (with_reducible first | exact HB.out | apply bX_ | apply bW_ | apply bY_ | refine bS_ ?_ GE207.out) | exact HB.out)⟩
                              · rw [if_neg c71] at H
                                exact absurd H (by simp)
end Go.Proofs.YtppeidopijnnlaaDoor.C
