/- Words and walks that were printed. -/
import Derived.Test.YtppeidopijnnlaaDoorTl10
import Derived.Test.YtppeidopijnnlaaDoorTl12
namespace Go.Proofs.YtppeidopijnnlaaDoor.C
open Go.RowKit Go.Proofs.YtppeidopijnnlaaDoorW.PrintWords Go.Proofs.YtppeidopijnnlaaDoorW.PrintLast Go.Proofs.YtppeidopijnnlaaDoorW.PrintMore
attribute [local go_sem] max2_int min2_int max_two min_two max_three min_three max_four min_four   -- for this text's walks alone
set_option linter.unusedVariables false
set_option linter.unusedSimpArgs false
mutual
noncomputable def r8_Take.j0 : Nat → List Int → Int → Int → Int → Int → Int → Int → Int → Int → Int → Int → Int → Int → Bool → Int → Option (Int × Int × Int × Int × Int × Int × Int × Bool × Int × Int × Int)
  | 0, _, _, _, _, _, _, _, _, _, _, _, _, _, _, _ => none
  | k + 1, x0, x1, x8, x9, x10, x12, x13, x196000, x196001, x196002, x196003, x196004, x196005, x196006, x196007 => if x8 = 2 then (r8_Take.j1 k x0 x1 x8 x9 x10 x12 4 x196000 x196001 x196002 x196003 x196004 x196005 x196006 x196007) else (r8_Take.j1 k x0 x1 x8 x9 x10 x12 x13 x196000 x196001 x196002 x196003 x196004 x196005 x196006 x196007)
noncomputable def r8_Take.j1 : Nat → List Int → Int → Int → Int → Int → Int → Int → Int → Int → Int → Int → Int → Int → Bool → Int → Option (Int × Int × Int × Int × Int × Int × Int × Bool × Int × Int × Int)
  | 0, _, _, _, _, _, _, _, _, _, _, _, _, _, _, _ => none
  | k + 1, x0, x1, x8, x9, x10, x12, x13, x196000, x196001, x196002, x196003, x196004, x196005, x196006, x196007 => if x9 = 4 then (if (x0.length : Int) < 2 then (some (0, 0, 0, 0, 0, 0, 0, false, 0, 0, 80)) else (if 1 < (x0.length : Int) then (if (wrap64 ((wrap64 (Go.bits .and .u8 ((rd x0 1) / 8) 7)) + (wrap64 ((wrap64 (Go.bits .and .u8 (x1 / 2) 1)) * 8)))) = 4 then (if (Go.bits .and .u8 (rd x0 1) 7) = 5 then (if x8 = 0 then (r8_Take.j2 k x0 x10 2 4 x196000 x196001 (-1) x196003 x196004 x196005 x196006 x196007) else (r8_Take.j2 k x0 x10 2 x13 x196000 x196001 (wrap64 ((wrap64 (Go.bits .and .u8 (rd x0 1) 7)) + (wrap64 ((wrap64 (Go.bits .and .u8 x1 1)) * 8)))) x196003 x196004 x196005 x196006 x196007)) else (r8_Take.j2 k x0 x10 2 x13 x196000 x196001 (wrap64 ((wrap64 (Go.bits .and .u8 (rd x0 1) 7)) + (wrap64 ((wrap64 (Go.bits .and .u8 x1 1)) * 8)))) x196003 x196004 x196005 x196006 x196007)) else (if 0 ≤ (IntKind.u64.wrap ((rd x0 1) / 64)) then (if (Go.bits .and .u8 (rd x0 1) 7) = 5 then (if x8 = 0 then (r8_Take.j2 k x0 x10 2 4 x196000 x196001 (-1) (wrap64 ((wrap64 (Go.bits .and .u8 ((rd x0 1) / 8) 7)) + (wrap64 ((wrap64 (Go.bits .and .u8 (x1 / 2) 1)) * 8)))) (shl .i64 1 (IntKind.u64.wrap ((rd x0 1) / 64))) x196005 x196006 x196007) else (r8_Take.j2 k x0 x10 2 x13 x196000 x196001 (wrap64 ((wrap64 (Go.bits .and .u8 (rd x0 1) 7)) + (wrap64 ((wrap64 (Go.bits .and .u8 x1 1)) * 8)))) (wrap64 ((wrap64 (Go.bits .and .u8 ((rd x0 1) / 8) 7)) + (wrap64 ((wrap64 (Go.bits .and .u8 (x1 / 2) 1)) * 8)))) (shl .i64 1 (IntKind.u64.wrap ((rd x0 1) / 64))) x196005 x196006 x196007)) else (r8_Take.j2 k x0 x10 2 x13 x196000 x196001 (wrap64 ((wrap64 (Go.bits .and .u8 (rd x0 1) 7)) + (wrap64 ((wrap64 (Go.bits .and .u8 x1 1)) * 8)))) (wrap64 ((wrap64 (Go.bits .and .u8 ((rd x0 1) / 8) 7)) + (wrap64 ((wrap64 (Go.bits .and .u8 (x1 / 2) 1)) * 8)))) (shl .i64 1 (IntKind.u64.wrap ((rd x0 1) / 64))) x196005 x196006 x196007)) else (none))) else (none))) else (if x9 = 5 then (if x8 = 0 then (r8_Take.j2 k x0 x10 x12 4 x196000 x196001 (-1) x196003 x196004 x196005 true x196007) else (r8_Take.j2 k x0 x10 x12 x13 x196000 x196001 x196002 x196003 x196004 x196005 x196006 x196007)) else (r8_Take.j2 k x0 x10 x12 x13 x196000 x196001 x196002 x196003 x196004 x196005 x196006 x196007))
noncomputable def r8_Take.j2 : Nat → List Int → Int → Int → Int → Int → Int → Int → Int → Int → Int → Bool → Int → Option (Int × Int × Int × Int × Int × Int × Int × Bool × Int × Int × Int)
  | 0, _, _, _, _, _, _, _, _, _, _, _, _ => none
  | k + 1, x0, x10, x12, x13, x196000, x196001, x196002, x196003, x196004, x196005, x196006, x196007 => if x13 > 0 then (if 0 ≤ x12 then (if x12 ≤ (x0.length : Int) then ((r8_number.f k (x0.drop (x12 : Int).toNat) x13).bind fun bt202 => (if bt202.2 = true then (some (x10, x196000, x196001, x196002, x196003, x196004, bt202.1, x196006, x196007, wrap64 (x12 + x13), 0)) else (some (0, 0, 0, 0, 0, 0, 0, false, 0, 0, 80)))) else (none)) else (none)) else (some (x10, x196000, x196001, x196002, x196003, x196004, x196005, x196006, x196007, wrap64 (x12 + x13), 0))
end
noncomputable def r8_Take.f (k : Nat) (l0 : List Int) (a1 : Int) : Option (Int × Int × Int × Int × Int × Int × Int × Bool × Int × Int × Int) := if (l0.length : Int) = 0 then (some (0, 0, 0, 0, 0, 0, 0, false, 0, 0, 80)) else (if 0 < (l0.length : Int) then (if ((rd l0 0) / 64) = 3 then ((r8_Reg.f (wrap64 ((wrap64 (Go.bits .and .u8 (rd l0 0) 7)) + (wrap64 ((wrap64 (Go.bits .and .u8 a1 1)) * 8))))).bind fun bt179 => (some (wrap64 ((wrap64 (Go.bits .and .u8 ((rd l0 0) / 8) 7)) + (wrap64 ((wrap64 (Go.bits .and .u8 (a1 / 4) 1)) * 8))), bt179.1, bt179.2.1, bt179.2.2.1, bt179.2.2.2.1, bt179.2.2.2.2.1, bt179.2.2.2.2.2.1, bt179.2.2.2.2.2.2.1, bt179.2.2.2.2.2.2.2, 1, 0))) else ((r8_Mem.f (wrap64 ((wrap64 (Go.bits .and .u8 (rd l0 0) 7)) + (wrap64 ((wrap64 (Go.bits .and .u8 a1 1)) * 8)))) 0).bind fun bt187 => (if ((rd l0 0) / 64) = 1 then (r8_Take.j0 k l0 a1 ((rd l0 0) / 64) (wrap64 (Go.bits .and .u8 (rd l0 0) 7)) (wrap64 ((wrap64 (Go.bits .and .u8 ((rd l0 0) / 8) 7)) + (wrap64 ((wrap64 (Go.bits .and .u8 (a1 / 4) 1)) * 8)))) 1 1 bt187.1 bt187.2.1 bt187.2.2.1 bt187.2.2.2.1 bt187.2.2.2.2.1 bt187.2.2.2.2.2.1 bt187.2.2.2.2.2.2.1 bt187.2.2.2.2.2.2.2) else (r8_Take.j0 k l0 a1 ((rd l0 0) / 64) (wrap64 (Go.bits .and .u8 (rd l0 0) 7)) (wrap64 ((wrap64 (Go.bits .and .u8 ((rd l0 0) / 8) 7)) + (wrap64 ((wrap64 (Go.bits .and .u8 (a1 / 4) 1)) * 8)))) 1 0 bt187.1 bt187.2.1 bt187.2.2.1 bt187.2.2.2.1 bt187.2.2.2.2.1 bt187.2.2.2.2.2.1 bt187.2.2.2.2.2.2.1 bt187.2.2.2.2.2.2.2)))) else (none))
noncomputable def r8_Take.T3 : Bool × List (List Nat × List Nat) := (true, [([], []), ([0], [0]), ([1], [1]), ([2], [2]), ([], []), ([4], [4]), ([5], [5]), ([6], [6]), ([7], [7]), ([3, 0, 1, 2, 3], [3]), ([8, 9, 0, 1, 2, 3, 4, 5, 6, 7, 8, 9], [8])])
noncomputable def r8_Take.B3 : List Nat := [0, 1, 3, 7, 0, 16, 48, 112, 240, 15, 1023]
theorem r8_Take.tab3 : rtab .any (opsOf Tryd.f12 3) = r8_Take.T3 := by kernel_rfl
theorem r8_Take.bits3 : waitsOk r8_Take.T3.2 r8_Take.B3 = true := by kernel_rfl
noncomputable def r8_Take.T34 : Bool × List (List Nat × List Nat) := (true, [([], []), ([], []), ([], []), ([], []), ([2, 3], [2, 3]), ([0, 0], [0]), ([1, 5, 0, 1, 5], [1]), ([4, 6, 0, 1, 2, 3, 4, 5, 6], [4]), ([7, 0, 1, 2, 3, 4, 5, 6, 7], [])])
noncomputable def r8_Take.B34 : List Nat := [0, 0, 0, 0, 12, 1, 35, 127, 255]
theorem r8_Take.tab34 : rtab .any (opsOf Tryd.f12 34) = r8_Take.T34 := by kernel_rfl
theorem r8_Take.bits34 : waitsOk r8_Take.T34.2 r8_Take.B34 = true := by kernel_rfl
set_option maxHeartbeats 8000000 in
set_option maxRecDepth 100000 in
theorem r8_Take.calls (k : Nat) (A0 : Option Addr) (c0 : Nat) (l0 : List Int) (a1 : Int) (r1 : Int) (r2 : Int) (r3 : Int) (r4 : Int) (r5 : Int) (r6 : Int) (r7 : Int) (r8 : Bool) (r9 : Int) (r10 : Int) (r11 : Int) (w : World) (hr0 : Kd.C (Kd.int .u8) w A0 l0.length l0) (hc0 : l0.length ≤ c0) (h : r8_Take.f k l0 a1 = some (r1, r2, r3, r4, r5, r6, r7, r8, r9, r10, r11)) :
    Calls Tryd.prog 12 #[.slice A0 l0.length c0, .int .u8 a1] w fun e w' => e = .returned (.tuple #[.int .i64 r1, .agg #[.int .u8 r2, .int .i64 r3, .int .i64 r4, .int .i64 r5, .int .i64 r6, .int .i64 r7, .bool r8, .int .i64 r9], .int .i64 r10, .int .i64 r11]) ∧ Below w.heap.size w w' := by
  have hu23 := Tryd.underlying23
  have HR0 := Aside0.mk hr0
  have HC0 := Aside0.mk hc0
  clear hr0 hc0
  have HB := Aside0.mk (Below.refl w.heap.size w)
  have H : (if (l0.length : Int) = 0 then (some (0, 0, 0, 0, 0, 0, 0, false, 0, 0, 80)) else (if 0 < (l0.length : Int) then (if ((rd l0 0) / 64) = 3 then ((r8_Reg.f (wrap64 ((wrap64 (Go.bits .and .u8 (rd l0 0) 7)) + (wrap64 ((wrap64 (Go.bits .and .u8 a1 1)) * 8))))).bind fun bt179 => (some (wrap64 ((wrap64 (Go.bits .and .u8 ((rd l0 0) / 8) 7)) + (wrap64 ((wrap64 (Go.bits .and .u8 (a1 / 4) 1)) * 8))), bt179.1, bt179.2.1, bt179.2.2.1, bt179.2.2.2.1, bt179.2.2.2.2.1, bt179.2.2.2.2.2.1, bt179.2.2.2.2.2.2.1, bt179.2.2.2.2.2.2.2, 1, 0))) else ((r8_Mem.f (wrap64 ((wrap64 (Go.bits .and .u8 (rd l0 0) 7)) + (wrap64 ((wrap64 (Go.bits .and .u8 a1 1)) * 8)))) 0).bind fun bt187 => (if ((rd l0 0) / 64) = 1 then (r8_Take.j0 k l0 a1 ((rd l0 0) / 64) (wrap64 (Go.bits .and .u8 (rd l0 0) 7)) (wrap64 ((wrap64 (Go.bits .and .u8 ((rd l0 0) / 8) 7)) + (wrap64 ((wrap64 (Go.bits .and .u8 (a1 / 4) 1)) * 8)))) 1 1 bt187.1 bt187.2.1 bt187.2.2.1 bt187.2.2.2.1 bt187.2.2.2.2.1 bt187.2.2.2.2.2.1 bt187.2.2.2.2.2.2.1 bt187.2.2.2.2.2.2.2) else (r8_Take.j0 k l0 a1 ((rd l0 0) / 64) (wrap64 (Go.bits .and .u8 (rd l0 0) 7)) (wrap64 ((wrap64 (Go.bits .and .u8 ((rd l0 0) / 8) 7)) + (wrap64 ((wrap64 (Go.bits .and .u8 (a1 / 4) 1)) * 8)))) 1 0 bt187.1 bt187.2.1 bt187.2.2.1 bt187.2.2.2.1 bt187.2.2.2.2.1 bt187.2.2.2.2.2.1 bt187.2.2.2.2.2.2.1 bt187.2.2.2.2.2.2.2)))) else (none))) = some (r1, r2, r3, r4, r5, r6, r7, r8, r9, r10, r11) := h
  clear h
  by_cases c3 : (l0.length : Int) = 0
  · rw [if_pos c3] at H
    have c3b0 : ((l0.length : Int) == 0) = true := beq_iff_eq.mpr c3
    have c3b1 : ((l0.length : Int) != 0) = false := bne_eq_false_iff_eq.mpr c3
    clear c3
    simp only [Option.some.injEq, Prod.mk.injEq] at H
    obtain ⟨rfl, rfl, rfl, rfl, rfl, rfl, rfl, rfl, rfl, rfl, rfl⟩ := H
    go_enter Tryd.func12, Tryd.ntmps12
    go_wp2_with (first | ((with_reducible refine gate_dst (N := 5) rfl ?_); refine box_event ?hg (N := 5) ?hd (cs := #[.int .u8 0, .int .i64 0, .int .i64 0, .int .i64 0, .int .i64 0, .int .i64 0, .bool false, .int .i64 0]) (t := 23) ?hr ?_; (case hd => rfl); (case hg => rfl); (case hr => first | (go_simp; done) | (go_simp; rfl)); intro gb175 hg w4 hbox hb; have n0_ := Aside0.mk (below_step (by repeat (first | (with_reducible first | exact HB.out | apply bX_ | apply bW_ | apply bY_) | exact HB.out)) hb); have n1_ := Aside0.mk (hbox); have n2_ := Aside0.mk ((by rw [hg]; exact (below_size (by repeat (first | (with_reducible first | exact HB.out | apply bX_ | apply bW_ | apply bY_) | exact HB.out))) : w.heap.size ≤ gb175)); have n3_ := Aside0.mk ((by rw [hg]; exact (below_size (by repeat (first | (with_reducible first | exact HB.out | apply bX_ | apply bW_ | apply bY_) | exact HB.out))) : w.heap.size ≤ gb175)); clear HB; have HB := n0_; have BK175 := n1_; have GW175 := n2_; have GE175 := n3_; clear n0_ n1_ n2_ n3_; clear hb hbox hg; have hcz5_0 : w4.cell? ⟨gb175, 0, none⟩ = some (.int .u8 0) := (bC_ BK175.out 0).trans rfl; have hcz5_1 : w4.cell? ⟨gb175, 1, none⟩ = some (.int .i64 0) := (bC_ BK175.out 1).trans rfl; have hcz5_2 : w4.cell? ⟨gb175, 2, none⟩ = some (.int .i64 0) := (bC_ BK175.out 2).trans rfl; have hcz5_3 : w4.cell? ⟨gb175, 3, none⟩ = some (.int .i64 0) := (bC_ BK175.out 3).trans rfl; have hcz5_4 : w4.cell? ⟨gb175, 4, none⟩ = some (.int .i64 0) := (bC_ BK175.out 4).trans rfl; have hcz5_5 : w4.cell? ⟨gb175, 5, none⟩ = some (.int .i64 0) := (bC_ BK175.out 5).trans rfl; have hcz5_6 : w4.cell? ⟨gb175, 6, none⟩ = some (.bool false) := (bC_ BK175.out 6).trans rfl; have hcz5_7 : w4.cell? ⟨gb175, 7, none⟩ = some (.int .i64 0) := (bC_ BK175.out 7).trans rfl; have hfz5_0 := bF_ BK175.out 0; have hfz5_1 := bF_ BK175.out 1; have hfz5_2 := bF_ BK175.out 2; have hfz5_3 := bF_ BK175.out 3; have hfz5_4 := bF_ BK175.out 4; have hfz5_5 := bF_ BK175.out 5; have hfz5_6 := bF_ BK175.out 6; have hfz5_7 := bF_ BK175.out 7))
    refine bodyPost_ret (results_list (rs := [.tmp 4, .cell 5 23, .tmp 6, .tmp 7]) rfl (by simp) (.tmp (.cell gb175 23 #[.int .u8 0, .int .i64 0, .int .i64 0, .int .i64 0, .int .i64 0, .int .i64 0, .bool false, .int .i64 0] (0, 0) _ rfl (by (with_reducible repeat (first | refine bN_ ?_ _ | refine bD_ ?_ | refine bA_ ?_ _)); refine blk_put (cs := #[.int .u8 0, .int .i64 0, .int .i64 0, .int .i64 0, .int .i64 0, .int .i64 0, .bool false, .int .i64 0]) ?_ 7 _ rfl; (with_reducible repeat (first | refine bN_ ?_ _ | refine bD_ ?_ | refine bA_ ?_ _)); refine blk_put (cs := #[.int .u8 0, .int .i64 0, .int .i64 0, .int .i64 0, .int .i64 0, .int .i64 0, .bool false, .int .i64 0]) ?_ 6 _ rfl; (with_reducible repeat (first | refine bN_ ?_ _ | refine bD_ ?_ | refine bA_ ?_ _)); refine blk_put (cs := #[.int .u8 0, .int .i64 0, .int .i64 0, .int .i64 0, .int .i64 0, .int .i64 0, .bool false, .int .i64 0]) ?_ 5 _ rfl; (with_reducible repeat (first | refine bN_ ?_ _ | refine bD_ ?_ | refine bA_ ?_ _)); refine blk_put (cs := #[.int .u8 0, .int .i64 0, .int .i64 0, .int .i64 0, .int .i64 0, .int .i64 0, .bool false, .int .i64 0]) ?_ 4 _ rfl; (with_reducible repeat (first | refine bN_ ?_ _ | refine bD_ ?_ | refine bA_ ?_ _)); refine blk_put (cs := #[.int .u8 0, .int .i64 0, .int .i64 0, .int .i64 0, .int .i64 0, .int .i64 0, .bool false, .int .i64 0]) ?_ 3 _ rfl; (with_reducible repeat (first | refine bN_ ?_ _ | refine bD_ ?_ | refine bA_ ?_ _)); refine blk_put (cs := #[.int .u8 0, .int .i64 0, .int .i64 0, .int .i64 0, .int .i64 0, .int .i64 0, .bool false, .int .i64 0]) ?_ 2 _ rfl; (with_reducible repeat (first | refine bN_ ?_ _ | refine bD_ ?_ | refine bA_ ?_ _)); refine blk_put (cs := #[.int .u8 0, .int .i64 0, .int .i64 0, .int .i64 0, .int .i64 0, .int .i64 0, .bool false, .int .i64 0]) ?_ 1 _ rfl; (with_reducible repeat (first | refine bN_ ?_ _ | refine bD_ ?_ | refine bA_ ?_ _)); refine blk_put (cs := #[.int .u8 0, .int .i64 0, .int .i64 0, .int .i64 0, .int .i64 0, .int .i64 0, .bool false, .int .i64 0]) ?_ 0 _ rfl; (with_reducible repeat (first | refine bN_ ?_ _ | refine bD_ ?_ | refine bA_ ?_ _)); exact BK175.out) Tryd.underlying23 rfl (by kernel_rfl) (.tmp (.tmp .nil))))) rfl ?_
    exact ⟨by first | rfl | (simp [errW_none, errW_some] <;> rfl) | (simp [*, errW_none, errW_some] <;> rfl), by repeat (first | (with_reducible first | exact HB.out | apply bX_ | apply bW_ | apply bY_ | refine bS_ ?_ GE175.out) | exact HB.out)⟩
  · rw [if_neg c3] at H
    have c3b0 : ((l0.length : Int) == 0) = false := beq_eq_false_iff_ne.mpr c3
    have c3b1 : ((l0.length : Int) != 0) = true := bne_iff_ne.mpr c3
    have c3b2 : ¬ (l0 = []) := fun h_ => c3 (by rw [h_]; rfl)
    by_cases c6 : 0 < (l0.length : Int)
    · rw [if_pos c6] at H
      have c6b0 : decide (0 < (l0.length : Int)) = true := decide_eq_true c6
      have c6b1 : decide (0 < l0.length) = true := decide_eq_true (by omega)
      clear c6
      by_cases c7 : ((rd l0 0) / 64) = 3
      · rw [if_pos c7] at H
        have c7b0 : (((rd l0 0) / 64) == 3) = true := beq_iff_eq.mpr c7
        have c7b1 : (((rd l0 0) / 64) != 3) = false := bne_eq_false_iff_eq.mpr c7
        clear c7
        replace H := Option.bind_eq_some_iff.mp H
        obtain ⟨⟨t179, t180, t181, t182, t183, t184, t185, t186⟩, A80, H⟩ := H
        replace H : (some (wrap64 ((wrap64 (Go.bits .and .u8 ((rd l0 0) / 8) 7)) + (wrap64 ((wrap64 (Go.bits .and .u8 (a1 / 4) 1)) * 8))), t179, t180, t181, t182, t183, t184, t185, t186, 1, 0)) = some (r1, r2, r3, r4, r5, r6, r7, r8, r9, r10, r11) := H
        have A8 := Aside0.mk A80
        clear A80
        simp only [Option.some.injEq, Prod.mk.injEq] at H
        obtain ⟨rfl, rfl, rfl, rfl, rfl, rfl, rfl, rfl, rfl, rfl, rfl⟩ := H
        go_enter Tryd.func12, Tryd.ntmps12
        try go_wp2_with (first | ((with_reducible refine gate_dst (N := 5) rfl ?_); refine box_event ?hg (N := 5) ?hd (cs := #[.int .u8 0, .int .i64 0, .int .i64 0, .int .i64 0, .int .i64 0, .int .i64 0, .bool false, .int .i64 0]) (t := 23) ?hr ?_; (case hd => rfl); (case hg => rfl); (case hr => first | (go_simp; done) | (go_simp; rfl)); intro gb175 hg w9 hbox hb; have n0_ := Aside0.mk (below_step (by repeat (first | (with_reducible first | exact HB.out | apply bX_ | apply bW_ | apply bY_) | exact HB.out)) hb); have n1_ := Aside0.mk (hbox); have n2_ := Aside0.mk ((by rw [hg]; exact (below_size (by repeat (first | (with_reducible first | exact HB.out | apply bX_ | apply bW_ | apply bY_) | exact HB.out))) : w.heap.size ≤ gb175)); have n3_ := Aside0.mk ((by rw [hg]; exact (below_size (by repeat (first | (with_reducible first | exact HB.out | apply bX_ | apply bW_ | apply bY_) | exact HB.out))) : w.heap.size ≤ gb175)); clear HB; have HB := n0_; have BK175 := n1_; have GW175 := n2_; have GE175 := n3_; clear n0_ n1_ n2_ n3_; clear hb hbox hg))
        have n0_ := Aside0.mk (bD_ BK175.out)
        have n1_ := Aside0.mk (bY_ HB.out)
        clear BK175
        clear HB
        have BK175 := n0_
        have HB := n1_
        clear n0_ n1_
        have p176 : 0 ≤ (0 : Int) := (by omega)
        have q176 : 0 < (l0.length : Int) := of_decide_eq_true (by first | (with_reducible assumption) | assumption)
        obtain ⟨ad176, e176, hx176_0⟩ := Kd.at_int HR0.out 0 p176 q176
        have hw176_0 := hx176_0
        (try rw [show ((0 : Int)).toNat = 0 from rfl] at hw176_0)
        (try rw [show 0 * 1 = 0 from rfl] at hw176_0)
        (try rw [Addr.add_zero'] at hw176_0)
        cases e176
        have qi176 : (0 < l0.length) = True := eq_true (by omega)
        (try rw [show ((0 : Int)).toNat = 0 from rfl] at hx176_0)
        (try rw [Addr.add_zero'] at hx176_0)
        replace hx176_0 := (HB.out.cell (World.block_lt_of_cell? w _ hx176_0)).trans hx176_0
        replace p176 := eq_true p176
        replace q176 := eq_true q176
        have p177 : 0 ≤ (0 : Int) := (by omega)
        have q177 : 0 < (l0.length : Int) := of_decide_eq_true (by first | (with_reducible assumption) | assumption)
        obtain ⟨ad177, e177, hx177_0⟩ := Kd.at_int HR0.out 0 p177 q177
        have hw177_0 := hx177_0
        (try rw [show ((0 : Int)).toNat = 0 from rfl] at hw177_0)
        (try rw [show 0 * 1 = 0 from rfl] at hw177_0)
        (try rw [Addr.add_zero'] at hw177_0)
        obtain rfl : ad176 = ad177 := (by injection e177)
        have qi177 : (0 < l0.length) = True := eq_true (by omega)
        (try rw [show ((0 : Int)).toNat = 0 from rfl] at hx177_0)
        (try rw [Addr.add_zero'] at hx177_0)
        replace hx177_0 := (HB.out.cell (World.block_lt_of_cell? w _ hx177_0)).trans hx177_0
        replace p177 := eq_true p177
        replace q177 := eq_true q177
        refine start_ (n := 11) (S := fun w' => w'.cell? ad176 = some (.int .u8 (rd l0 0)) ∧ w'.cell? ad176 = some (.int .u8 (rd l0 0))) (ds := []) #[false, false, false, false, false, false, false, false, false, false, false] (by kernel_rfl) rfl rfl ⟨((HB.out.cell (World.block_lt_of_cell? w _ hw176_0)).trans hw176_0), ((HB.out.cell (World.block_lt_of_cell? w _ hw177_0)).trans hw177_0)⟩ (fun hHeld => ?_); refine with_tabW r8_Take.tab3 r8_Take.bits3 (fun HT_ HW_ => ?_)
        generalize w9.drew = w10 at BK175 HB hx176_0 hx177_0 hHeld ⊢
        refine pure_ (i := 0) (N := some 21) (v := ?_) (a' := ?_) #[true, false, false, false, false, false, false, false, false, false, false] rfl rfl (any_of HT_.out (by kernel_rfl)) (fun _ _ _ h => h) (Or.inl ⟨by rfl, ?_⟩) ?_ ?_
        rotate_left
        · intro w'
          go_simp
          with_reducible rfl
        rotate_left
        · simp only [Act.put, List.setIfInBounds_toArray, List.set_cons_zero, List.set_cons_succ, i64_w, i32_w]
          rfl
        refine pure_ (i := 1) (N := some 22) (v := ?_) (a' := ?_) #[true, true, false, false, false, false, false, false, false, false, false] rfl rfl (any_of HT_.out (by kernel_rfl)) (fun _ _ _ h => h) (Or.inl ⟨by rfl, ?_⟩) ?_ ?_
        rotate_left
        · intro w'
          go_simp
          with_reducible rfl
        rotate_left
        · simp only [Act.put, List.setIfInBounds_toArray, List.set_cons_zero, List.set_cons_succ, i64_w, i32_w]
          rfl
        refine pure_ (i := 4) (N := some 25) (v := ?_) (a' := ?_) #[true, true, false, false, true, false, false, false, false, false, false] rfl rfl (any_of HT_.out (by kernel_rfl)) (fun _ _ _ h => h) (Or.inl ⟨by rfl, ?_⟩) ?_ ?_
        rotate_left
        · intro w'
          go_simp
          with_reducible rfl
        rotate_left
        · simp only [Act.put, List.setIfInBounds_toArray, List.set_cons_zero, List.set_cons_succ, i64_w, i32_w]
          rfl
        refine pure_ (i := 5) (N := some 26) (v := ?_) (a' := ?_) #[true, true, false, false, true, true, false, false, false, false, false] rfl rfl (any_of HT_.out (by kernel_rfl)) (fun _ _ _ h => h) (Or.inl ⟨by rfl, ?_⟩) ?_ ?_
        rotate_left
        · intro w'
          go_simp
          with_reducible rfl
        rotate_left
        · simp only [Act.put, List.setIfInBounds_toArray, List.set_cons_zero, List.set_cons_succ, i64_w, i32_w]
          rfl
        refine take_ (i := 2) (N := some 23) (v := ?_) (a' := ?_) #[true, true, true, false, true, true, false, false, false, false, false] rfl rfl (take_ofW HT_.out HW_.out (by kernel_rfl)) (fun _ _ _ h => h) (Or.inl ⟨by rfl, ?_⟩) hHeld ?_ ?_
        rotate_left
        · rintro w' ⟨s0, s1⟩
          go_simp
          with_reducible rfl
        rotate_left
        · simp only [Act.put, List.setIfInBounds_toArray, List.set_cons_zero, List.set_cons_succ, i64_w, i32_w]
          rfl
        refine pure_ (i := 3) (N := some 24) (v := ?_) (a' := ?_) #[true, true, true, true, true, true, false, false, false, false, false] rfl rfl (any_of HT_.out (by kernel_rfl)) (fun _ _ _ h => h) (Or.inl ⟨by rfl, ?_⟩) ?_ ?_
        rotate_left
        · intro w'
          go_simp
          with_reducible rfl
        rotate_left
        · simp only [Act.put, List.setIfInBounds_toArray, List.set_cons_zero, List.set_cons_succ, i64_w, i32_w]
          rfl
        refine pure_ (i := 9) (N := some 8) (v := ?_) (a' := ?_) #[true, true, true, true, true, true, false, false, false, true, false] rfl rfl (any_of HT_.out (by kernel_rfl)) (fun _ _ _ h => h) (Or.inl ⟨by rfl, ?_⟩) ?_ ?_
        rotate_left
        · intro w'
          go_simp
          with_reducible rfl
        rotate_left
        · simp only [Act.put, List.setIfInBounds_toArray, List.set_cons_zero, List.set_cons_succ, i64_w, i32_w]
          rfl
        refine take_ (i := 6) (N := some 27) (v := ?_) (a' := ?_) #[true, true, true, true, true, true, true, false, false, true, false] rfl rfl (take_ofW HT_.out HW_.out (by kernel_rfl)) (fun _ _ _ h => h) (Or.inl ⟨by rfl, ?_⟩) hHeld ?_ ?_
        rotate_left
        · rintro w' ⟨s0, s1⟩
          go_simp
          with_reducible rfl
        rotate_left
        · simp only [Act.put, List.setIfInBounds_toArray, List.set_cons_zero, List.set_cons_succ, i64_w, i32_w]
          rfl
        refine pure_ (i := 7) (N := some 28) (v := ?_) (a' := ?_) #[true, true, true, true, true, true, true, true, false, true, false] rfl rfl (any_of HT_.out (by kernel_rfl)) (fun _ _ _ h => h) (Or.inl ⟨by rfl, ?_⟩) ?_ ?_
        rotate_left
        · intro w'
          go_simp
          with_reducible rfl
        rotate_left
        · simp only [Act.put, List.setIfInBounds_toArray, List.set_cons_zero, List.set_cons_succ, i64_w, i32_w]
          rfl
        refine pure_ (i := 8) (N := some 29) (v := ?_) (a' := ?_) #[true, true, true, true, true, true, true, true, true, true, false] rfl rfl (any_of HT_.out (by kernel_rfl)) (fun _ _ _ h => h) (Or.inl ⟨by rfl, ?_⟩) ?_ ?_
        rotate_left
        · intro w'
          go_simp
          with_reducible rfl
        rotate_left
        · simp only [Act.put, List.setIfInBounds_toArray, List.set_cons_zero, List.set_cons_succ, i64_w, i32_w]
          rfl
        refine pure_ (i := 10) (N := some 9) (v := ?_) (a' := ?_) #[true, true, true, true, true, true, true, true, true, true, true] rfl rfl (any_of HT_.out (by kernel_rfl)) (fun _ _ _ h => h) (Or.inl ⟨by rfl, ?_⟩) ?_ ?_
        rotate_left
        · intro w'
          go_simp
          with_reducible rfl
        rotate_left
        · simp only [Act.put, List.setIfInBounds_toArray, List.set_cons_zero, List.set_cons_succ, i64_w, i32_w]
          rfl
        refine done_ (done_of HT_.out (by kernel_rfl)) ?_
        have p178 : 0 ≤ (0 : Int) := (by omega)
        have q178 : 0 < (l0.length : Int) := of_decide_eq_true (by first | (with_reducible assumption) | assumption)
        obtain ⟨ad178, e178, hx178_0⟩ := Kd.at_int HR0.out 0 p178 q178
        obtain rfl : ad176 = ad178 := (by injection e178)
        have qi178 : (0 < l0.length) = True := eq_true (by omega)
        (try rw [show ((0 : Int)).toNat = 0 from rfl] at hx178_0)
        (try rw [Addr.add_zero'] at hx178_0)
        replace hx178_0 := (HB.out.cell (World.block_lt_of_cell? w _ hx178_0)).trans hx178_0
        replace p178 := eq_true p178
        replace q178 := eq_true q178
        try go_wp2_with (first | ((with_reducible refine gate_callee (f := 20) rfl ?_); refine goesL_ (some 51) rfl rfl Tryd.func20 (by kernel_rfl) rfl #[.int .i64 (wrap64 ((wrap64 (Go.bits .and .u8 (rd l0 0) 7)) + (wrap64 ((wrap64 (Go.bits .and .u8 a1 1)) * 8))))] rfl (by (try simp only [List.map_toArray, List.map_cons, List.map_nil]); first | done | rfl | (simp only [List.length_drop, List.length_take]; rfl)) ?_; (with_reducible refine (r8_Reg.calls (wrap64 ((wrap64 (Go.bits .and .u8 (rd l0 0) 7)) + (wrap64 ((wrap64 (Go.bits .and .u8 a1 1)) * 8)))) t179 t180 t181 t182 t183 t184 t185 t186 _ A8.out).mono ?_); rintro e w11 ⟨rfl, hb⟩; refine ⟨_, rfl, ?_⟩; have n0_ := Aside0.mk (blk_below (g := gb175) (o := .cells #[.int .u8 0, .int .i64 0, .int .i64 0, .int .i64 0, .int .i64 0, .int .i64 0, .bool false, .int .i64 0] 23 (0, 0)) (by (with_reducible repeat (first | refine bN_ ?_ _ | refine bD_ ?_ | refine bA_ ?_ _)); exact BK175.out) hb); have n1_ := Aside0.mk (below_step (by repeat (first | (with_reducible first | exact HB.out | apply bX_ | apply bW_ | apply bY_ | refine bS_ ?_ GE175.out) | exact HB.out)) hb); clear BK175; clear HB; have BK175 := n0_; have HB := n1_; clear n0_ n1_; (try clear hb); (try clear hb2); (try clear hk); (try clear hi); have hcz12_0 : w11.cell? ⟨gb175, 0, none⟩ = some (.int .u8 0) := (bC_ BK175.out 0).trans rfl; have hcz12_1 : w11.cell? ⟨gb175, 1, none⟩ = some (.int .i64 0) := (bC_ BK175.out 1).trans rfl; have hcz12_2 : w11.cell? ⟨gb175, 2, none⟩ = some (.int .i64 0) := (bC_ BK175.out 2).trans rfl; have hcz12_3 : w11.cell? ⟨gb175, 3, none⟩ = some (.int .i64 0) := (bC_ BK175.out 3).trans rfl; have hcz12_4 : w11.cell? ⟨gb175, 4, none⟩ = some (.int .i64 0) := (bC_ BK175.out 4).trans rfl; have hcz12_5 : w11.cell? ⟨gb175, 5, none⟩ = some (.int .i64 0) := (bC_ BK175.out 5).trans rfl; have hcz12_6 : w11.cell? ⟨gb175, 6, none⟩ = some (.bool false) := (bC_ BK175.out 6).trans rfl; have hcz12_7 : w11.cell? ⟨gb175, 7, none⟩ = some (.int .i64 0) := (bC_ BK175.out 7).trans rfl; have hfz12_0 := bF_ BK175.out 0; have hfz12_1 := bF_ BK175.out 1; have hfz12_2 := bF_ BK175.out 2; have hfz12_3 := bF_ BK175.out 3; have hfz12_4 := bF_ BK175.out 4; have hfz12_5 := bF_ BK175.out 5; have hfz12_6 := bF_ BK175.out 6; have hfz12_7 := bF_ BK175.out 7))
        refine bodyPost_ret (results_list (rs := [.tmp 4, .cell 5 23, .tmp 6, .tmp 7]) rfl (by simp) (.tmp (.cell gb175 23 #[.int .u8 t179, .int .i64 t180, .int .i64 t181, .int .i64 t182, .int .i64 t183, .int .i64 t184, .bool t185, .int .i64 t186] (0, 0) _ rfl (by (with_reducible repeat (first | refine bN_ ?_ _ | refine bD_ ?_ | refine bA_ ?_ _)); refine blk_put (cs := #[.int .u8 t179, .int .i64 t180, .int .i64 t181, .int .i64 t182, .int .i64 t183, .int .i64 t184, .bool t185, .int .i64 0]) ?_ 7 _ rfl; (with_reducible repeat (first | refine bN_ ?_ _ | refine bD_ ?_ | refine bA_ ?_ _)); refine blk_put (cs := #[.int .u8 t179, .int .i64 t180, .int .i64 t181, .int .i64 t182, .int .i64 t183, .int .i64 t184, .bool false, .int .i64 0]) ?_ 6 _ rfl; (with_reducible repeat (first | refine bN_ ?_ _ | refine bD_ ?_ | refine bA_ ?_ _)); refine blk_put (cs := #[.int .u8 t179, .int .i64 t180, .int .i64 t181, .int .i64 t182, .int .i64 t183, .int .i64 0, .bool false, .int .i64 0]) ?_ 5 _ rfl; (with_reducible repeat (first | refine bN_ ?_ _ | refine bD_ ?_ | refine bA_ ?_ _)); refine blk_put (cs := #[.int .u8 t179, .int .i64 t180, .int .i64 t181, .int .i64 t182, .int .i64 0, .int .i64 0, .bool false, .int .i64 0]) ?_ 4 _ rfl; (with_reducible repeat (first | refine bN_ ?_ _ | refine bD_ ?_ | refine bA_ ?_ _)); refine blk_put (cs := #[.int .u8 t179, .int .i64 t180, .int .i64 t181, .int .i64 0, .int .i64 0, .int .i64 0, .bool false, .int .i64 0]) ?_ 3 _ rfl; (with_reducible repeat (first | refine bN_ ?_ _ | refine bD_ ?_ | refine bA_ ?_ _)); refine blk_put (cs := #[.int .u8 t179, .int .i64 t180, .int .i64 0, .int .i64 0, .int .i64 0, .int .i64 0, .bool false, .int .i64 0]) ?_ 2 _ rfl; (with_reducible repeat (first | refine bN_ ?_ _ | refine bD_ ?_ | refine bA_ ?_ _)); refine blk_put (cs := #[.int .u8 t179, .int .i64 0, .int .i64 0, .int .i64 0, .int .i64 0, .int .i64 0, .bool false, .int .i64 0]) ?_ 1 _ rfl; (with_reducible repeat (first | refine bN_ ?_ _ | refine bD_ ?_ | refine bA_ ?_ _)); refine blk_put (cs := #[.int .u8 0, .int .i64 0, .int .i64 0, .int .i64 0, .int .i64 0, .int .i64 0, .bool false, .int .i64 0]) ?_ 0 _ rfl; (with_reducible repeat (first | refine bN_ ?_ _ | refine bD_ ?_ | refine bA_ ?_ _)); exact BK175.out) Tryd.underlying23 rfl (by kernel_rfl) (.tmp (.tmp .nil))))) rfl ?_
        exact ⟨by first | rfl | (simp [errW_none, errW_some] <;> rfl) | (simp [*, errW_none, errW_some] <;> rfl), by repeat (first | (with_reducible first | exact HB.out | apply bX_ | apply bW_ | apply bY_ | refine bS_ ?_ GE175.out) | exact HB.out)⟩
      · rw [if_neg c7] at H
        have c7b0 : (((rd l0 0) / 64) == 3) = false := beq_eq_false_iff_ne.mpr c7
        have c7b1 : (((rd l0 0) / 64) != 3) = true := bne_iff_ne.mpr c7
        replace H := Option.bind_eq_some_iff.mp H
        obtain ⟨⟨t187, t188, t189, t190, t191, t192, t193, t194⟩, A130, H⟩ := H
        replace H : (if ((rd l0 0) / 64) = 1 then (r8_Take.j0 k l0 a1 ((rd l0 0) / 64) (wrap64 (Go.bits .and .u8 (rd l0 0) 7)) (wrap64 ((wrap64 (Go.bits .and .u8 ((rd l0 0) / 8) 7)) + (wrap64 ((wrap64 (Go.bits .and .u8 (a1 / 4) 1)) * 8)))) 1 1 t187 t188 t189 t190 t191 t192 t193 t194) else (r8_Take.j0 k l0 a1 ((rd l0 0) / 64) (wrap64 (Go.bits .and .u8 (rd l0 0) 7)) (wrap64 ((wrap64 (Go.bits .and .u8 ((rd l0 0) / 8) 7)) + (wrap64 ((wrap64 (Go.bits .and .u8 (a1 / 4) 1)) * 8)))) 1 0 t187 t188 t189 t190 t191 t192 t193 t194)) = some (r1, r2, r3, r4, r5, r6, r7, r8, r9, r10, r11) := H
        have A13 := Aside0.mk A130
        clear A130
        have HC14 := Aside0.mk H
        clear H
        go_enter Tryd.func12, Tryd.ntmps12
        try go_wp2_with (first | ((with_reducible refine gate_dst (N := 5) rfl ?_); refine box_event ?hg (N := 5) ?hd (cs := #[.int .u8 0, .int .i64 0, .int .i64 0, .int .i64 0, .int .i64 0, .int .i64 0, .bool false, .int .i64 0]) (t := 23) ?hr ?_; (case hd => rfl); (case hg => rfl); (case hr => first | (go_simp; done) | (go_simp; rfl)); intro gb175 hg w15 hbox hb; have n0_ := Aside0.mk (below_step (by repeat (first | (with_reducible first | exact HB.out | apply bX_ | apply bW_ | apply bY_) | exact HB.out)) hb); have n1_ := Aside0.mk (hbox); have n2_ := Aside0.mk ((by rw [hg]; exact (below_size (by repeat (first | (with_reducible first | exact HB.out | apply bX_ | apply bW_ | apply bY_) | exact HB.out))) : w.heap.size ≤ gb175)); have n3_ := Aside0.mk ((by rw [hg]; exact (below_size (by repeat (first | (with_reducible first | exact HB.out | apply bX_ | apply bW_ | apply bY_) | exact HB.out))) : w.heap.size ≤ gb175)); clear HB; have HB := n0_; have BK175 := n1_; have GW175 := n2_; have GE175 := n3_; clear n0_ n1_ n2_ n3_; clear hb hbox hg))
        have n0_ := Aside0.mk (bD_ BK175.out)
        have n1_ := Aside0.mk (bY_ HB.out)
        clear BK175
        clear HB
        have BK175 := n0_
        have HB := n1_
        clear n0_ n1_
        have p176 : 0 ≤ (0 : Int) := (by omega)
        have q176 : 0 < (l0.length : Int) := of_decide_eq_true (by first | (with_reducible assumption) | assumption)
        obtain ⟨ad176, e176, hx176_0⟩ := Kd.at_int HR0.out 0 p176 q176
        have hw176_0 := hx176_0
        (try rw [show ((0 : Int)).toNat = 0 from rfl] at hw176_0)
        (try rw [show 0 * 1 = 0 from rfl] at hw176_0)
        (try rw [Addr.add_zero'] at hw176_0)
        cases e176
        have qi176 : (0 < l0.length) = True := eq_true (by omega)
        (try rw [show ((0 : Int)).toNat = 0 from rfl] at hx176_0)
        (try rw [Addr.add_zero'] at hx176_0)
        replace hx176_0 := (HB.out.cell (World.block_lt_of_cell? w _ hx176_0)).trans hx176_0
        replace p176 := eq_true p176
        replace q176 := eq_true q176
        have p177 : 0 ≤ (0 : Int) := (by omega)
        have q177 : 0 < (l0.length : Int) := of_decide_eq_true (by first | (with_reducible assumption) | assumption)
        obtain ⟨ad177, e177, hx177_0⟩ := Kd.at_int HR0.out 0 p177 q177
        have hw177_0 := hx177_0
        (try rw [show ((0 : Int)).toNat = 0 from rfl] at hw177_0)
        (try rw [show 0 * 1 = 0 from rfl] at hw177_0)
        (try rw [Addr.add_zero'] at hw177_0)
        obtain rfl : ad176 = ad177 := (by injection e177)
        have qi177 : (0 < l0.length) = True := eq_true (by omega)
        (try rw [show ((0 : Int)).toNat = 0 from rfl] at hx177_0)
        (try rw [Addr.add_zero'] at hx177_0)
        replace hx177_0 := (HB.out.cell (World.block_lt_of_cell? w _ hx177_0)).trans hx177_0
        replace p177 := eq_true p177
        replace q177 := eq_true q177
        refine start_ (n := 11) (S := fun w' => w'.cell? ad176 = some (.int .u8 (rd l0 0)) ∧ w'.cell? ad176 = some (.int .u8 (rd l0 0))) (ds := []) #[false, false, false, false, false, false, false, false, false, false, false] (by kernel_rfl) rfl rfl ⟨((HB.out.cell (World.block_lt_of_cell? w _ hw176_0)).trans hw176_0), ((HB.out.cell (World.block_lt_of_cell? w _ hw177_0)).trans hw177_0)⟩ (fun hHeld => ?_); refine with_tabW r8_Take.tab3 r8_Take.bits3 (fun HT_ HW_ => ?_)
        generalize w15.drew = w16 at BK175 HB hx176_0 hx177_0 hHeld ⊢
        refine pure_ (i := 0) (N := some 21) (v := ?_) (a' := ?_) #[true, false, false, false, false, false, false, false, false, false, false] rfl rfl (any_of HT_.out (by kernel_rfl)) (fun _ _ _ h => h) (Or.inl ⟨by rfl, ?_⟩) ?_ ?_
        rotate_left
        · intro w'
          go_simp
          with_reducible rfl
        rotate_left
        · simp only [Act.put, List.setIfInBounds_toArray, List.set_cons_zero, List.set_cons_succ, i64_w, i32_w]
          rfl
        refine pure_ (i := 1) (N := some 22) (v := ?_) (a' := ?_) #[true, true, false, false, false, false, false, false, false, false, false] rfl rfl (any_of HT_.out (by kernel_rfl)) (fun _ _ _ h => h) (Or.inl ⟨by rfl, ?_⟩) ?_ ?_
        rotate_left
        · intro w'
          go_simp
          with_reducible rfl
        rotate_left
        · simp only [Act.put, List.setIfInBounds_toArray, List.set_cons_zero, List.set_cons_succ, i64_w, i32_w]
          rfl
        refine pure_ (i := 4) (N := some 25) (v := ?_) (a' := ?_) #[true, true, false, false, true, false, false, false, false, false, false] rfl rfl (any_of HT_.out (by kernel_rfl)) (fun _ _ _ h => h) (Or.inl ⟨by rfl, ?_⟩) ?_ ?_
        rotate_left
        · intro w'
          go_simp
          with_reducible rfl
        rotate_left
        · simp only [Act.put, List.setIfInBounds_toArray, List.set_cons_zero, List.set_cons_succ, i64_w, i32_w]
          rfl
        refine pure_ (i := 5) (N := some 26) (v := ?_) (a' := ?_) #[true, true, false, false, true, true, false, false, false, false, false] rfl rfl (any_of HT_.out (by kernel_rfl)) (fun _ _ _ h => h) (Or.inl ⟨by rfl, ?_⟩) ?_ ?_
        rotate_left
        · intro w'
          go_simp
          with_reducible rfl
        rotate_left
        · simp only [Act.put, List.setIfInBounds_toArray, List.set_cons_zero, List.set_cons_succ, i64_w, i32_w]
          rfl
        refine take_ (i := 2) (N := some 23) (v := ?_) (a' := ?_) #[true, true, true, false, true, true, false, false, false, false, false] rfl rfl (take_ofW HT_.out HW_.out (by kernel_rfl)) (fun _ _ _ h => h) (Or.inl ⟨by rfl, ?_⟩) hHeld ?_ ?_
        rotate_left
        · rintro w' ⟨s0, s1⟩
          go_simp
          with_reducible rfl
        rotate_left
        · simp only [Act.put, List.setIfInBounds_toArray, List.set_cons_zero, List.set_cons_succ, i64_w, i32_w]
          rfl
        refine pure_ (i := 3) (N := some 24) (v := ?_) (a' := ?_) #[true, true, true, true, true, true, false, false, false, false, false] rfl rfl (any_of HT_.out (by kernel_rfl)) (fun _ _ _ h => h) (Or.inl ⟨by rfl, ?_⟩) ?_ ?_
        rotate_left
        · intro w'
          go_simp
          with_reducible rfl
        rotate_left
        · simp only [Act.put, List.setIfInBounds_toArray, List.set_cons_zero, List.set_cons_succ, i64_w, i32_w]
          rfl
        refine pure_ (i := 9) (N := some 8) (v := ?_) (a' := ?_) #[true, true, true, true, true, true, false, false, false, true, false] rfl rfl (any_of HT_.out (by kernel_rfl)) (fun _ _ _ h => h) (Or.inl ⟨by rfl, ?_⟩) ?_ ?_
        rotate_left
        · intro w'
          go_simp
          with_reducible rfl
        rotate_left
        · simp only [Act.put, List.setIfInBounds_toArray, List.set_cons_zero, List.set_cons_succ, i64_w, i32_w]
          rfl
        refine take_ (i := 6) (N := some 27) (v := ?_) (a' := ?_) #[true, true, true, true, true, true, true, false, false, true, false] rfl rfl (take_ofW HT_.out HW_.out (by kernel_rfl)) (fun _ _ _ h => h) (Or.inl ⟨by rfl, ?_⟩) hHeld ?_ ?_
        rotate_left
        · rintro w' ⟨s0, s1⟩
          go_simp
          with_reducible rfl
        rotate_left
        · simp only [Act.put, List.setIfInBounds_toArray, List.set_cons_zero, List.set_cons_succ, i64_w, i32_w]
          rfl
        refine pure_ (i := 7) (N := some 28) (v := ?_) (a' := ?_) #[true, true, true, true, true, true, true, true, false, true, false] rfl rfl (any_of HT_.out (by kernel_rfl)) (fun _ _ _ h => h) (Or.inl ⟨by rfl, ?_⟩) ?_ ?_
        rotate_left
        · intro w'
          go_simp
          with_reducible rfl
        rotate_left
        · simp only [Act.put, List.setIfInBounds_toArray, List.set_cons_zero, List.set_cons_succ, i64_w, i32_w]
          rfl
        refine pure_ (i := 8) (N := some 29) (v := ?_) (a' := ?_) #[true, true, true, true, true, true, true, true, true, true, false] rfl rfl (any_of HT_.out (by kernel_rfl)) (fun _ _ _ h => h) (Or.inl ⟨by rfl, ?_⟩) ?_ ?_
        rotate_left
        · intro w'
          go_simp
          with_reducible rfl
        rotate_left
        · simp only [Act.put, List.setIfInBounds_toArray, List.set_cons_zero, List.set_cons_succ, i64_w, i32_w]
          rfl
        refine pure_ (i := 10) (N := some 9) (v := ?_) (a' := ?_) #[true, true, true, true, true, true, true, true, true, true, true] rfl rfl (any_of HT_.out (by kernel_rfl)) (fun _ _ _ h => h) (Or.inl ⟨by rfl, ?_⟩) ?_ ?_
        rotate_left
        · intro w'
          go_simp
          with_reducible rfl
        rotate_left
        · simp only [Act.put, List.setIfInBounds_toArray, List.set_cons_zero, List.set_cons_succ, i64_w, i32_w]
          rfl
        refine done_ (done_of HT_.out (by kernel_rfl)) ?_
        have p178 : 0 ≤ (0 : Int) := (by omega)
        have q178 : 0 < (l0.length : Int) := of_decide_eq_true (by first | (with_reducible assumption) | assumption)
        obtain ⟨ad178, e178, hx178_0⟩ := Kd.at_int HR0.out 0 p178 q178
        obtain rfl : ad176 = ad178 := (by injection e178)
        have qi178 : (0 < l0.length) = True := eq_true (by omega)
        (try rw [show ((0 : Int)).toNat = 0 from rfl] at hx178_0)
        (try rw [Addr.add_zero'] at hx178_0)
        replace hx178_0 := (HB.out.cell (World.block_lt_of_cell? w _ hx178_0)).trans hx178_0
        replace p178 := eq_true p178
        replace q178 := eq_true q178
        go_upto_if 60 with (first | ((with_reducible refine gate_callee (f := 22) rfl ?_); refine goesL_ (some 58) rfl rfl Tryd.func22 (by kernel_rfl) rfl #[.int .i64 (wrap64 ((wrap64 (Go.bits .and .u8 (rd l0 0) 7)) + (wrap64 ((wrap64 (Go.bits .and .u8 a1 1)) * 8)))), .int .i64 0] rfl (by (try simp only [List.map_toArray, List.map_cons, List.map_nil]); first | done | rfl | (simp only [List.length_drop, List.length_take]; rfl)) ?_; (with_reducible refine (r8_Mem.calls (wrap64 ((wrap64 (Go.bits .and .u8 (rd l0 0) 7)) + (wrap64 ((wrap64 (Go.bits .and .u8 a1 1)) * 8)))) 0 t187 t188 t189 t190 t191 t192 t193 t194 _ A13.out).mono ?_); rintro e w17 ⟨rfl, hb⟩; refine ⟨_, rfl, ?_⟩; have n0_ := Aside0.mk (blk_below (g := gb175) (o := .cells #[.int .u8 0, .int .i64 0, .int .i64 0, .int .i64 0, .int .i64 0, .int .i64 0, .bool false, .int .i64 0] 23 (0, 0)) (by (with_reducible repeat (first | refine bN_ ?_ _ | refine bD_ ?_ | refine bA_ ?_ _)); exact BK175.out) hb); have n1_ := Aside0.mk (below_step (by repeat (first | (with_reducible first | exact HB.out | apply bX_ | apply bW_ | apply bY_ | refine bS_ ?_ GE175.out) | exact HB.out)) hb); clear BK175; clear HB; have BK175 := n0_; have HB := n1_; clear n0_ n1_; (try clear hb); (try clear hb2); (try clear hk); (try clear hi)) | ((with_reducible refine gate_dst (N := 11) rfl ?_); refine box_event ?hg (N := 11) ?hd (cs := #[.int .u8 0, .int .i64 0, .int .i64 0, .int .i64 0, .int .i64 0, .int .i64 0, .bool false, .int .i64 0]) (t := 23) ?hr ?_; (case hd => rfl); (case hg => rfl); (case hr => first | (go_simp; done) | (go_simp; rfl)); intro gb195 hg w18 hbox hb; have n0_ := Aside0.mk (blk_below (g := gb175) (o := .cells #[.int .u8 0, .int .i64 0, .int .i64 0, .int .i64 0, .int .i64 0, .int .i64 0, .bool false, .int .i64 0] 23 (0, 0)) (by (with_reducible repeat (first | refine bN_ ?_ _ | refine bD_ ?_ | refine bA_ ?_ _)); exact BK175.out) hb); have n1_ := Aside0.mk (below_step (by repeat (first | (with_reducible first | exact HB.out | apply bX_ | apply bW_ | apply bY_ | refine bS_ ?_ GE175.out) | exact HB.out)) hb); have n2_ := Aside0.mk (hbox); have n3_ := Aside0.mk ((by rw [hg]; exact (below_size (by repeat (first | (with_reducible first | exact HB.out | apply bX_ | apply bW_ | apply bY_ | refine bS_ ?_ GE175.out) | exact HB.out))) : w.heap.size ≤ gb195)); have n4_ := Aside0.mk ((by rw [hg]; exact (below_size (by repeat (first | (with_reducible first | exact HB.out | apply bX_ | apply bW_ | apply bY_ | refine bS_ ?_ GE175.out) | exact HB.out))) : w.heap.size ≤ gb195)); have n5_ := Aside0.mk ((by rw [hg]; exact Nat.ne_of_lt (blk_lt (g := gb175) (o := .cells #[.int .u8 0, .int .i64 0, .int .i64 0, .int .i64 0, .int .i64 0, .int .i64 0, .bool false, .int .i64 0] 23 (0, 0)) (by (with_reducible repeat (first | refine bN_ ?_ _ | refine bD_ ?_ | refine bA_ ?_ _)); exact BK175.out)) : gb175 ≠ gb195)); have n6_ := Aside0.mk ((by rw [hg]; exact Nat.ne_of_gt (blk_lt (g := gb175) (o := .cells #[.int .u8 0, .int .i64 0, .int .i64 0, .int .i64 0, .int .i64 0, .int .i64 0, .bool false, .int .i64 0] 23 (0, 0)) (by (with_reducible repeat (first | refine bN_ ?_ _ | refine bD_ ?_ | refine bA_ ?_ _)); exact BK175.out)) : gb195 ≠ gb175)); clear BK175; clear HB; have BK175 := n0_; have HB := n1_; have BK195 := n2_; have GW195 := n3_; have GE195 := n4_; have NB175_195 := n5_; have NB195_175 := n6_; clear n0_ n1_ n2_ n3_ n4_ n5_ n6_; clear hb hbox hg; have hnb19 := NB195_175.out; have hnc19 := NB175_195.out; have hcz20_0 : w18.cell? ⟨gb195, 0, none⟩ = some (.int .u8 0) := (bC_ BK195.out 0).trans rfl; have hcz20_1 : w18.cell? ⟨gb195, 1, none⟩ = some (.int .i64 0) := (bC_ BK195.out 1).trans rfl; have hcz20_2 : w18.cell? ⟨gb195, 2, none⟩ = some (.int .i64 0) := (bC_ BK195.out 2).trans rfl; have hcz20_3 : w18.cell? ⟨gb195, 3, none⟩ = some (.int .i64 0) := (bC_ BK195.out 3).trans rfl; have hcz20_4 : w18.cell? ⟨gb195, 4, none⟩ = some (.int .i64 0) := (bC_ BK195.out 4).trans rfl; have hcz20_5 : w18.cell? ⟨gb195, 5, none⟩ = some (.int .i64 0) := (bC_ BK195.out 5).trans rfl; have hcz20_6 : w18.cell? ⟨gb195, 6, none⟩ = some (.bool false) := (bC_ BK195.out 6).trans rfl; have hcz20_7 : w18.cell? ⟨gb195, 7, none⟩ = some (.int .i64 0) := (bC_ BK195.out 7).trans rfl; have hfz20_0 := bF_ BK195.out 0; have hfz20_1 := bF_ BK195.out 1; have hfz20_2 := bF_ BK195.out 2; have hfz20_3 := bF_ BK195.out 3; have hfz20_4 := bF_ BK195.out 4; have hfz20_5 := bF_ BK195.out 5; have hfz20_6 := bF_ BK195.out 6; have hfz20_7 := bF_ BK195.out 7))
        (try simp only [Act.put, List.setIfInBounds_toArray, List.set_cons_zero, List.set_cons_succ])
        go_cut [13] (fun v13 wc => ∃ (kq : Nat) (x13_13 : Int), v13 = .int .i64 x13_13 ∧ Aside0 (r8_Take.j0 kq l0 a1 ((rd l0 0) / 64) (wrap64 (Go.bits .and .u8 (rd l0 0) 7)) (wrap64 ((wrap64 (Go.bits .and .u8 ((rd l0 0) / 8) 7)) + (wrap64 ((wrap64 (Go.bits .and .u8 (a1 / 4) 1)) * 8)))) 1 x13_13 t187 t188 t189 t190 t191 t192 t193 t194 = some (r1, r2, r3, r4, r5, r6, r7, r8, r9, r10, r11)) ∧ Aside0 (kq ≤ k) ∧ Aside0 (wc.heap[gb175]? = some (.cells #[.int .u8 0, .int .i64 0, .int .i64 0, .int .i64 0, .int .i64 0, .int .i64 0, .bool false, .int .i64 0] 23 (0, 0))) ∧ Aside0 (wc.heap[gb195]? = some (.cells #[.int .u8 t187, .int .i64 t188, .int .i64 t189, .int .i64 t190, .int .i64 t191, .int .i64 t192, .bool t193, .int .i64 t194] 23 (0, 0))) ∧ Aside0 (Below w.heap.size w wc))
        case first =>
          have H := HC14.out
          clear HC14
          by_cases c21 : ((rd l0 0) / 64) = 1
          · rw [if_pos c21] at H
            have c21b0 : (((rd l0 0) / 64) == 1) = true := beq_iff_eq.mpr c21
            have c21b1 : (((rd l0 0) / 64) != 1) = false := bne_eq_false_iff_eq.mpr c21
            clear c21
            (first | rw [c21b0] | (simp only [i64_w, i32_w]; rw [c21b0]) | skip)
            have H' := Aside0.mk H
            clear H
            go_wp2
            go_meet
            case rel => exact ⟨_, (1), (by first | rfl | (simp; done) | (simp [*]; done)), H', ⟨by first | omega | exact Nat.le_refl _⟩, ⟨by (with_reducible repeat (first | refine bN_ ?_ _ | refine bD_ ?_ | refine bA_ ?_ _)); refine blk_far ?_ NB175_195.out _; (with_reducible repeat (first | refine bN_ ?_ _ | refine bD_ ?_ | refine bA_ ?_ _)); refine blk_far ?_ NB175_195.out _; (with_reducible repeat (first | refine bN_ ?_ _ | refine bD_ ?_ | refine bA_ ?_ _)); refine blk_far ?_ NB175_195.out _; (with_reducible repeat (first | refine bN_ ?_ _ | refine bD_ ?_ | refine bA_ ?_ _)); refine blk_far ?_ NB175_195.out _; (with_reducible repeat (first | refine bN_ ?_ _ | refine bD_ ?_ | refine bA_ ?_ _)); refine blk_far ?_ NB175_195.out _; (with_reducible repeat (first | refine bN_ ?_ _ | refine bD_ ?_ | refine bA_ ?_ _)); refine blk_far ?_ NB175_195.out _; (with_reducible repeat (first | refine bN_ ?_ _ | refine bD_ ?_ | refine bA_ ?_ _)); refine blk_far ?_ NB175_195.out _; (with_reducible repeat (first | refine bN_ ?_ _ | refine bD_ ?_ | refine bA_ ?_ _)); refine blk_far ?_ NB175_195.out _; (with_reducible repeat (first | refine bN_ ?_ _ | refine bD_ ?_ | refine bA_ ?_ _)); exact BK175.out⟩, ⟨by (with_reducible repeat (first | refine bN_ ?_ _ | refine bD_ ?_ | refine bA_ ?_ _)); refine blk_put (cs := #[.int .u8 t187, .int .i64 t188, .int .i64 t189, .int .i64 t190, .int .i64 t191, .int .i64 t192, .bool t193, .int .i64 0]) ?_ 7 _ rfl; (with_reducible repeat (first | refine bN_ ?_ _ | refine bD_ ?_ | refine bA_ ?_ _)); refine blk_put (cs := #[.int .u8 t187, .int .i64 t188, .int .i64 t189, .int .i64 t190, .int .i64 t191, .int .i64 t192, .bool false, .int .i64 0]) ?_ 6 _ rfl; (with_reducible repeat (first | refine bN_ ?_ _ | refine bD_ ?_ | refine bA_ ?_ _)); refine blk_put (cs := #[.int .u8 t187, .int .i64 t188, .int .i64 t189, .int .i64 t190, .int .i64 t191, .int .i64 0, .bool false, .int .i64 0]) ?_ 5 _ rfl; (with_reducible repeat (first | refine bN_ ?_ _ | refine bD_ ?_ | refine bA_ ?_ _)); refine blk_put (cs := #[.int .u8 t187, .int .i64 t188, .int .i64 t189, .int .i64 t190, .int .i64 0, .int .i64 0, .bool false, .int .i64 0]) ?_ 4 _ rfl; (with_reducible repeat (first | refine bN_ ?_ _ | refine bD_ ?_ | refine bA_ ?_ _)); refine blk_put (cs := #[.int .u8 t187, .int .i64 t188, .int .i64 t189, .int .i64 0, .int .i64 0, .int .i64 0, .bool false, .int .i64 0]) ?_ 3 _ rfl; (with_reducible repeat (first | refine bN_ ?_ _ | refine bD_ ?_ | refine bA_ ?_ _)); refine blk_put (cs := #[.int .u8 t187, .int .i64 t188, .int .i64 0, .int .i64 0, .int .i64 0, .int .i64 0, .bool false, .int .i64 0]) ?_ 2 _ rfl; (with_reducible repeat (first | refine bN_ ?_ _ | refine bD_ ?_ | refine bA_ ?_ _)); refine blk_put (cs := #[.int .u8 t187, .int .i64 0, .int .i64 0, .int .i64 0, .int .i64 0, .int .i64 0, .bool false, .int .i64 0]) ?_ 1 _ rfl; (with_reducible repeat (first | refine bN_ ?_ _ | refine bD_ ?_ | refine bA_ ?_ _)); refine blk_put (cs := #[.int .u8 0, .int .i64 0, .int .i64 0, .int .i64 0, .int .i64 0, .int .i64 0, .bool false, .int .i64 0]) ?_ 0 _ rfl; (with_reducible repeat (first | refine bN_ ?_ _ | refine bD_ ?_ | refine bA_ ?_ _)); exact BK195.out⟩, ⟨by repeat (first | (with_reducible first | exact HB.out | apply bX_ | apply bW_ | apply bY_ | refine bS_ ?_ GE175.out | refine bS_ ?_ GE195.out) | exact HB.out)⟩⟩
          · rw [if_neg c21] at H
            have c21b0 : (((rd l0 0) / 64) == 1) = false := beq_eq_false_iff_ne.mpr c21
            have c21b1 : (((rd l0 0) / 64) != 1) = true := bne_iff_ne.mpr c21
            (first | rw [c21b0] | (simp only [i64_w, i32_w]; rw [c21b0]) | skip)
            have H' := Aside0.mk H
            clear H
            go_wp2
            go_meet
            case rel => exact ⟨_, (0), (by first | rfl | (simp; done) | (simp [*]; done)), H', ⟨by first | omega | exact Nat.le_refl _⟩, ⟨by (with_reducible repeat (first | refine bN_ ?_ _ | refine bD_ ?_ | refine bA_ ?_ _)); refine blk_far ?_ NB175_195.out _; (with_reducible repeat (first | refine bN_ ?_ _ | refine bD_ ?_ | refine bA_ ?_ _)); refine blk_far ?_ NB175_195.out _; (with_reducible repeat (first | refine bN_ ?_ _ | refine bD_ ?_ | refine bA_ ?_ _)); refine blk_far ?_ NB175_195.out _; (with_reducible repeat (first | refine bN_ ?_ _ | refine bD_ ?_ | refine bA_ ?_ _)); refine blk_far ?_ NB175_195.out _; (with_reducible repeat (first | refine bN_ ?_ _ | refine bD_ ?_ | refine bA_ ?_ _)); refine blk_far ?_ NB175_195.out _; (with_reducible repeat (first | refine bN_ ?_ _ | refine bD_ ?_ | refine bA_ ?_ _)); refine blk_far ?_ NB175_195.out _; (with_reducible repeat (first | refine bN_ ?_ _ | refine bD_ ?_ | refine bA_ ?_ _)); refine blk_far ?_ NB175_195.out _; (with_reducible repeat (first | refine bN_ ?_ _ | refine bD_ ?_ | refine bA_ ?_ _)); refine blk_far ?_ NB175_195.out _; (with_reducible repeat (first | refine bN_ ?_ _ | refine bD_ ?_ | refine bA_ ?_ _)); exact BK175.out⟩, ⟨by (with_reducible repeat (first | refine bN_ ?_ _ | refine bD_ ?_ | refine bA_ ?_ _)); refine blk_put (cs := #[.int .u8 t187, .int .i64 t188, .int .i64 t189, .int .i64 t190, .int .i64 t191, .int .i64 t192, .bool t193, .int .i64 0]) ?_ 7 _ rfl; (with_reducible repeat (first | refine bN_ ?_ _ | refine bD_ ?_ | refine bA_ ?_ _)); refine blk_put (cs := #[.int .u8 t187, .int .i64 t188, .int .i64 t189, .int .i64 t190, .int .i64 t191, .int .i64 t192, .bool false, .int .i64 0]) ?_ 6 _ rfl; (with_reducible repeat (first | refine bN_ ?_ _ | refine bD_ ?_ | refine bA_ ?_ _)); refine blk_put (cs := #[.int .u8 t187, .int .i64 t188, .int .i64 t189, .int .i64 t190, .int .i64 t191, .int .i64 0, .bool false, .int .i64 0]) ?_ 5 _ rfl; (with_reducible repeat (first | refine bN_ ?_ _ | refine bD_ ?_ | refine bA_ ?_ _)); refine blk_put (cs := #[.int .u8 t187, .int .i64 t188, .int .i64 t189, .int .i64 t190, .int .i64 0, .int .i64 0, .bool false, .int .i64 0]) ?_ 4 _ rfl; (with_reducible repeat (first | refine bN_ ?_ _ | refine bD_ ?_ | refine bA_ ?_ _)); refine blk_put (cs := #[.int .u8 t187, .int .i64 t188, .int .i64 t189, .int .i64 0, .int .i64 0, .int .i64 0, .bool false, .int .i64 0]) ?_ 3 _ rfl; (with_reducible repeat (first | refine bN_ ?_ _ | refine bD_ ?_ | refine bA_ ?_ _)); refine blk_put (cs := #[.int .u8 t187, .int .i64 t188, .int .i64 0, .int .i64 0, .int .i64 0, .int .i64 0, .bool false, .int .i64 0]) ?_ 2 _ rfl; (with_reducible repeat (first | refine bN_ ?_ _ | refine bD_ ?_ | refine bA_ ?_ _)); refine blk_put (cs := #[.int .u8 t187, .int .i64 0, .int .i64 0, .int .i64 0, .int .i64 0, .int .i64 0, .bool false, .int .i64 0]) ?_ 1 _ rfl; (with_reducible repeat (first | refine bN_ ?_ _ | refine bD_ ?_ | refine bA_ ?_ _)); refine blk_put (cs := #[.int .u8 0, .int .i64 0, .int .i64 0, .int .i64 0, .int .i64 0, .int .i64 0, .bool false, .int .i64 0]) ?_ 0 _ rfl; (with_reducible repeat (first | refine bN_ ?_ _ | refine bD_ ?_ | refine bA_ ?_ _)); exact BK195.out⟩, ⟨by repeat (first | (with_reducible first | exact HB.out | apply bX_ | apply bW_ | apply bY_ | refine bS_ ?_ GE175.out | refine bS_ ?_ GE195.out) | exact HB.out)⟩⟩
        case rest =>
          clear HC14
          (try clear c1); (try clear p1); (try clear q1); (try clear hx1); (try clear qi1); (try clear c2); (try clear p2); (try clear c3); (try clear c3b0); (try clear c3b1); (try clear c3b2); (try clear c6); (try clear c6b0); (try clear c6b1); (try clear p6); (try clear c7); (try clear c7b0); (try clear c7b1); (try clear c12); (try clear p17); (try clear q17); (try clear hx17); (try clear qi17); (try clear c19); (try clear c20); (try clear c21); (try clear c21b0); (try clear c21b1); (try clear hx176_0); (try clear hx177_0); (try clear hx178_0); (try clear p176); (try clear p177); (try clear p178); (try clear q176); (try clear q177); (try clear q178)
          obtain ⟨kq, x13_13, rfl, HA, HJ13, BK175, BK195, HB⟩ := hcut
          cases kq with
          | zero => exact absurd HA.out (by simp [r8_Take.j0])
          | succ kj13 =>
            have H := HA.out
            clear HA
            simp only [r8_Take.j0] at H
            have HC22 := Aside0.mk H
            clear H
            go_upto_if 62 with (fail)
            go_cut [13] (fun v13 wc => ∃ (kq : Nat) (x13_21 : Int), v13 = .int .i64 x13_21 ∧ Aside0 (r8_Take.j1 kq l0 a1 ((rd l0 0) / 64) (wrap64 (Go.bits .and .u8 (rd l0 0) 7)) (wrap64 ((wrap64 (Go.bits .and .u8 ((rd l0 0) / 8) 7)) + (wrap64 ((wrap64 (Go.bits .and .u8 (a1 / 4) 1)) * 8)))) 1 x13_21 t187 t188 t189 t190 t191 t192 t193 t194 = some (r1, r2, r3, r4, r5, r6, r7, r8, r9, r10, r11)) ∧ Aside0 (kq ≤ kj13) ∧ Aside0 (wc.heap[gb175]? = some (.cells #[.int .u8 0, .int .i64 0, .int .i64 0, .int .i64 0, .int .i64 0, .int .i64 0, .bool false, .int .i64 0] 23 (0, 0))) ∧ Aside0 (wc.heap[gb195]? = some (.cells #[.int .u8 t187, .int .i64 t188, .int .i64 t189, .int .i64 t190, .int .i64 t191, .int .i64 t192, .bool t193, .int .i64 t194] 23 (0, 0))) ∧ Aside0 (Below w.heap.size w wc))
            case first =>
              have H := HC22.out
              clear HC22
              by_cases c23 : ((rd l0 0) / 64) = 2
              · rw [if_pos c23] at H
                have c23b0 : (((rd l0 0) / 64) == 2) = true := beq_iff_eq.mpr c23
                have c23b1 : (((rd l0 0) / 64) != 2) = false := bne_eq_false_iff_eq.mpr c23
                clear c23
                (first | rw [c23b0] | (simp only [i64_w, i32_w]; rw [c23b0]) | skip)
                have H' := Aside0.mk H
                clear H
                go_wp2
                go_meet
                case rel => exact ⟨_, (4), (by first | rfl | (simp; done) | (simp [*]; done)), H', ⟨by have := HJ13.out; first | omega | exact Nat.le_refl _⟩, ⟨by (with_reducible repeat (first | refine bN_ ?_ _ | refine bD_ ?_ | refine bA_ ?_ _)); exact BK175.out⟩, ⟨by (with_reducible repeat (first | refine bN_ ?_ _ | refine bD_ ?_ | refine bA_ ?_ _)); exact BK195.out⟩, ⟨by repeat (first | (with_reducible first | exact HB.out | apply bX_ | apply bW_ | apply bY_ | refine bS_ ?_ GE175.out | refine bS_ ?_ GE195.out) | exact HB.out)⟩⟩
              · rw [if_neg c23] at H
                have c23b0 : (((rd l0 0) / 64) == 2) = false := beq_eq_false_iff_ne.mpr c23
                have c23b1 : (((rd l0 0) / 64) != 2) = true := bne_iff_ne.mpr c23
                (first | rw [c23b0] | (simp only [i64_w, i32_w]; rw [c23b0]) | skip)
                have H' := Aside0.mk H
                clear H
                go_wp2
                go_meet
                case rel => exact ⟨_, (x13_13), (by first | rfl | (simp; done) | (simp [*]; done)), H', ⟨by have := HJ13.out; first | omega | exact Nat.le_refl _⟩, ⟨by (with_reducible repeat (first | refine bN_ ?_ _ | refine bD_ ?_ | refine bA_ ?_ _)); exact BK175.out⟩, ⟨by (with_reducible repeat (first | refine bN_ ?_ _ | refine bD_ ?_ | refine bA_ ?_ _)); exact BK195.out⟩, ⟨by repeat (first | (with_reducible first | exact HB.out | apply bX_ | apply bW_ | apply bY_ | refine bS_ ?_ GE175.out | refine bS_ ?_ GE195.out) | exact HB.out)⟩⟩
            case rest =>
              clear HC22
              (try clear c1); (try clear p1); (try clear q1); (try clear hx1); (try clear qi1); (try clear c2); (try clear p2); (try clear c3); (try clear c3b0); (try clear c3b1); (try clear c3b2); (try clear c6); (try clear c6b0); (try clear c6b1); (try clear p6); (try clear c7); (try clear c7b0); (try clear c7b1); (try clear c12); (try clear p17); (try clear q17); (try clear hx17); (try clear qi17); (try clear c19); (try clear c20); (try clear c21); (try clear c21b0); (try clear c21b1); (try clear c22); (try clear c23); (try clear c23b0); (try clear c23b1); (try clear hx176_0); (try clear hx177_0); (try clear hx178_0); (try clear p1); (try clear p17); (try clear p176); (try clear p177); (try clear p178); (try clear p2); (try clear p6); (try clear q1); (try clear q17); (try clear q176); (try clear q177); (try clear q178)
              obtain ⟨kq, x13_21, rfl, HA, HJ21, BK175, BK195, HB⟩ := hcut
              cases kq with
              | zero => exact absurd HA.out (by simp [r8_Take.j1])
              | succ kj21 =>
                have H := HA.out
                clear HA
                simp only [r8_Take.j1] at H
                have HC24 := Aside0.mk H
                clear H
                go_upto_block 0 with (fail)
                go_cut [12, 13] (fun v12 v13 wc => ∃ (kq : Nat) (x12_23 : Int) (x13_23 : Int) (x176000_23 : Int) (x176001_23 : Int) (x176002_23 : Int) (x176003_23 : Int) (x176004_23 : Int) (x176005_23 : Int) (x176006_23 : Bool) (x176007_23 : Int) (x196002_23 : Int) (x196003_23 : Int) (x196004_23 : Int) (x196006_23 : Bool), v12 = .int .i64 x12_23 ∧ v13 = .int .i64 x13_23 ∧ Aside0 (r8_Take.j2 kq l0 (wrap64 ((wrap64 (Go.bits .and .u8 ((rd l0 0) / 8) 7)) + (wrap64 ((wrap64 (Go.bits .and .u8 (a1 / 4) 1)) * 8)))) x12_23 x13_23 t187 t188 x196002_23 x196003_23 x196004_23 t192 x196006_23 t194 = some (r1, r2, r3, r4, r5, r6, r7, r8, r9, r10, r11)) ∧ Aside0 (kq ≤ kj21) ∧ Aside0 (wc.heap[gb175]? = some (.cells #[.int .u8 x176000_23, .int .i64 x176001_23, .int .i64 x176002_23, .int .i64 x176003_23, .int .i64 x176004_23, .int .i64 x176005_23, .bool x176006_23, .int .i64 x176007_23] 23 (0, 0))) ∧ Aside0 (wc.heap[gb195]? = some (.cells #[.int .u8 t187, .int .i64 t188, .int .i64 x196002_23, .int .i64 x196003_23, .int .i64 x196004_23, .int .i64 t192, .bool x196006_23, .int .i64 t194] 23 (0, 0))) ∧ Aside0 (Below w.heap.size w wc))
                case first =>
                  have H := HC24.out
                  clear HC24
                  by_cases c25 : (wrap64 (Go.bits .and .u8 (rd l0 0) 7)) = 4
                  · rw [if_pos c25] at H
                    have c25b0 : ((wrap64 (Go.bits .and .u8 (rd l0 0) 7)) == 4) = true := beq_iff_eq.mpr c25
                    have c25b1 : ((wrap64 (Go.bits .and .u8 (rd l0 0) 7)) != 4) = false := bne_eq_false_iff_eq.mpr c25
                    clear c25
                    (first | rw [c25b0] | (simp only [i64_w, i32_w]; rw [c25b0]) | skip)
                    by_cases c26 : (l0.length : Int) < 2
                    · rw [if_pos c26] at H
                      have c26b0 : decide ((l0.length : Int) < 2) = true := decide_eq_true c26
                      have c26b1 : decide (l0.length < 2) = true := decide_eq_true (by omega)
                      clear c26
                      simp only [Option.some.injEq, Prod.mk.injEq] at H
                      obtain ⟨rfl, rfl, rfl, rfl, rfl, rfl, rfl, rfl, rfl, rfl, rfl⟩ := H
                      have hnb27 := NB175_195.out
                      have hnc27 := NB195_175.out
                      have hcz28_0 : wc.cell? ⟨gb175, 0, none⟩ = some (.int .u8 0) := (bC_ BK175.out 0).trans rfl
                      have hcz28_1 : wc.cell? ⟨gb175, 1, none⟩ = some (.int .i64 0) := (bC_ BK175.out 1).trans rfl
                      have hcz28_2 : wc.cell? ⟨gb175, 2, none⟩ = some (.int .i64 0) := (bC_ BK175.out 2).trans rfl
                      have hcz28_3 : wc.cell? ⟨gb175, 3, none⟩ = some (.int .i64 0) := (bC_ BK175.out 3).trans rfl
                      have hcz28_4 : wc.cell? ⟨gb175, 4, none⟩ = some (.int .i64 0) := (bC_ BK175.out 4).trans rfl
                      have hcz28_5 : wc.cell? ⟨gb175, 5, none⟩ = some (.int .i64 0) := (bC_ BK175.out 5).trans rfl
                      have hcz28_6 : wc.cell? ⟨gb175, 6, none⟩ = some (.bool false) := (bC_ BK175.out 6).trans rfl
                      have hcz28_7 : wc.cell? ⟨gb175, 7, none⟩ = some (.int .i64 0) := (bC_ BK175.out 7).trans rfl
                      have hfz28_0 := bF_ BK175.out 0
                      have hfz28_1 := bF_ BK175.out 1
                      have hfz28_2 := bF_ BK175.out 2
                      have hfz28_3 := bF_ BK175.out 3
                      have hfz28_4 := bF_ BK175.out 4
                      have hfz28_5 := bF_ BK175.out 5
                      have hfz28_6 := bF_ BK175.out 6
                      have hfz28_7 := bF_ BK175.out 7
                      go_wp2
                      refine bodyPost_ret (results_list (rs := [.tmp 4, .cell 5 23, .tmp 6, .tmp 7]) rfl (by simp) (.tmp (.cell gb175 23 #[.int .u8 0, .int .i64 0, .int .i64 0, .int .i64 0, .int .i64 0, .int .i64 0, .bool false, .int .i64 0] (0, 0) _ rfl (by (with_reducible repeat (first | refine bN_ ?_ _ | refine bD_ ?_ | refine bA_ ?_ _)); refine blk_put (cs := #[.int .u8 0, .int .i64 0, .int .i64 0, .int .i64 0, .int .i64 0, .int .i64 0, .bool false, .int .i64 0]) ?_ 7 _ rfl; (with_reducible repeat (first | refine bN_ ?_ _ | refine bD_ ?_ | refine bA_ ?_ _)); refine blk_put (cs := #[.int .u8 0, .int .i64 0, .int .i64 0, .int .i64 0, .int .i64 0, .int .i64 0, .bool false, .int .i64 0]) ?_ 6 _ rfl; (with_reducible repeat (first | refine bN_ ?_ _ | refine bD_ ?_ | refine bA_ ?_ _)); refine blk_put (cs := #[.int .u8 0, .int .i64 0, .int .i64 0, .int .i64 0, .int .i64 0, .int .i64 0, .bool false, .int .i64 0]) ?_ 5 _ rfl; (with_reducible repeat (first | refine bN_ ?_ _ | refine bD_ ?_ | refine bA_ ?_ _)); refine blk_put (cs := #[.int .u8 0, .int .i64 0, .int .i64 0, .int .i64 0, .int .i64 0, .int .i64 0, .bool false, .int .i64 0]) ?_ 4 _ rfl; (with_reducible repeat (first | refine bN_ ?_ _ | refine bD_ ?_ | refine bA_ ?_ _)); refine blk_put (cs := #[.int .u8 0, .int .i64 0, .int .i64 0, .int .i64 0, .int .i64 0, .int .i64 0, .bool false, .int .i64 0]) ?_ 3 _ rfl; (with_reducible repeat (first | refine bN_ ?_ _ | refine bD_ ?_ | refine bA_ ?_ _)); refine blk_put (cs := #[.int .u8 0, .int .i64 0, .int .i64 0, .int .i64 0, .int .i64 0, .int .i64 0, .bool false, .int .i64 0]) ?_ 2 _ rfl; (with_reducible repeat (first | refine bN_ ?_ _ | refine bD_ ?_ | refine bA_ ?_ _)); refine blk_put (cs := #[.int .u8 0, .int .i64 0, .int .i64 0, .int .i64 0, .int .i64 0, .int .i64 0, .bool false, .int .i64 0]) ?_ 1 _ rfl; (with_reducible repeat (first | refine bN_ ?_ _ | refine bD_ ?_ | refine bA_ ?_ _)); refine blk_put (cs := #[.int .u8 0, .int .i64 0, .int .i64 0, .int .i64 0, .int .i64 0, .int .i64 0, .bool false, .int .i64 0]) ?_ 0 _ rfl; (with_reducible repeat (first | refine bN_ ?_ _ | refine bD_ ?_ | refine bA_ ?_ _)); exact BK175.out) Tryd.underlying23 rfl (by kernel_rfl) (.tmp (.tmp .nil))))) rfl ?_
                      exact ⟨by first | rfl | (simp [errW_none, errW_some] <;> rfl) | (simp [*, errW_none, errW_some] <;> rfl), by repeat (first | (with_reducible first | exact HB.out | apply bX_ | apply bW_ | apply bY_ | refine bS_ ?_ GE175.out | refine bS_ ?_ GE195.out) | exact HB.out)⟩
                    · rw [if_neg c26] at H
                      have c26b0 : decide ((l0.length : Int) < 2) = false := decide_eq_false c26
                      have c26b1 : decide (l0.length < 2) = false := decide_eq_false (by omega)
                      clear c26
                      by_cases c29 : 1 < (l0.length : Int)
                      · rw [if_pos c29] at H
                        have c29b0 : decide (1 < (l0.length : Int)) = true := decide_eq_true c29
                        have c29b1 : decide (1 < l0.length) = true := decide_eq_true (by omega)
                        clear c29
                        by_cases c30 : (wrap64 ((wrap64 (Go.bits .and .u8 ((rd l0 1) / 8) 7)) + (wrap64 ((wrap64 (Go.bits .and .u8 (a1 / 2) 1)) * 8)))) = 4
                        · rw [if_pos c30] at H
                          have c30b0 : ((wrap64 ((wrap64 (Go.bits .and .u8 ((rd l0 1) / 8) 7)) + (wrap64 ((wrap64 (Go.bits .and .u8 (a1 / 2) 1)) * 8)))) == 4) = true := beq_iff_eq.mpr c30
                          have c30b1 : ((wrap64 ((wrap64 (Go.bits .and .u8 ((rd l0 1) / 8) 7)) + (wrap64 ((wrap64 (Go.bits .and .u8 (a1 / 2) 1)) * 8)))) != 4) = false := bne_eq_false_iff_eq.mpr c30
                          clear c30
                          by_cases c31 : (Go.bits .and .u8 (rd l0 1) 7) = 5
                          · rw [if_pos c31] at H
                            have c31b0 : ((Go.bits .and .u8 (rd l0 1) 7) == 5) = true := beq_iff_eq.mpr c31
                            have c31b1 : ((Go.bits .and .u8 (rd l0 1) 7) != 5) = false := bne_eq_false_iff_eq.mpr c31
                            clear c31
                            by_cases c32 : ((rd l0 0) / 64) = 0
                            · rw [if_pos c32] at H
                              have c32b0 : (((rd l0 0) / 64) == 0) = true := beq_iff_eq.mpr c32
                              have c32b1 : (((rd l0 0) / 64) != 0) = false := bne_eq_false_iff_eq.mpr c32
                              clear c32
                              have H' := Aside0.mk H
                              clear H
                              have p196 : 0 ≤ (1 : Int) := (by omega)
                              have q196 : 1 < (l0.length : Int) := of_decide_eq_true (by first | (with_reducible assumption) | assumption)
                              obtain ⟨ad196, e196, hx196_0⟩ := Kd.at_int HR0.out 1 p196 q196
                              obtain rfl : ad176 = ad196 := (by injection e196)
                              (try simp only [show (1 : Int).toNat = 1 from rfl, Nat.reduceMul, Nat.reduceEqDiff, Go.Addr.add, ↓reduceIte] at hx196_0)
                              have qi196 : (1 < l0.length) = True := eq_true (by omega)
                              (try rw [show ((1 : Int)).toNat = 1 from rfl] at hx196_0)
                              replace hx196_0 := (HB.out.cell (World.block_lt_of_cell? w _ hx196_0)).trans hx196_0
                              replace p196 := eq_true p196
                              replace q196 := eq_true q196
                              have hnb33 := NB195_175.out
                              have hnc33 := NB175_195.out
                              have hcz34_0 : wc.cell? ⟨gb195, 0, none⟩ = some (.int .u8 t187) := (bC_ BK195.out 0).trans rfl
                              have hcz34_1 : wc.cell? ⟨gb195, 1, none⟩ = some (.int .i64 t188) := (bC_ BK195.out 1).trans rfl
                              have hcz34_2 : wc.cell? ⟨gb195, 2, none⟩ = some (.int .i64 t189) := (bC_ BK195.out 2).trans rfl
                              have hcz34_3 : wc.cell? ⟨gb195, 3, none⟩ = some (.int .i64 t190) := (bC_ BK195.out 3).trans rfl
                              have hcz34_4 : wc.cell? ⟨gb195, 4, none⟩ = some (.int .i64 t191) := (bC_ BK195.out 4).trans rfl
                              have hcz34_5 : wc.cell? ⟨gb195, 5, none⟩ = some (.int .i64 t192) := (bC_ BK195.out 5).trans rfl
                              have hcz34_6 : wc.cell? ⟨gb195, 6, none⟩ = some (.bool t193) := (bC_ BK195.out 6).trans rfl
                              have hcz34_7 : wc.cell? ⟨gb195, 7, none⟩ = some (.int .i64 t194) := (bC_ BK195.out 7).trans rfl
                              have hfz34_0 := bF_ BK195.out 0
                              have hfz34_1 := bF_ BK195.out 1
                              have hfz34_2 := bF_ BK195.out 2
                              have hfz34_3 := bF_ BK195.out 3
                              have hfz34_4 := bF_ BK195.out 4
                              have hfz34_5 := bF_ BK195.out 5
                              have hfz34_6 := bF_ BK195.out 6
                              have hfz34_7 := bF_ BK195.out 7
                              have p197 : 0 ≤ (1 : Int) := (by omega)
                              have q197 : 1 < (l0.length : Int) := of_decide_eq_true (by first | (with_reducible assumption) | assumption)
                              obtain ⟨ad197, e197, hx197_0⟩ := Kd.at_int HR0.out 1 p197 q197
                              obtain rfl : ad176 = ad197 := (by injection e197)
                              (try simp only [show (1 : Int).toNat = 1 from rfl, Nat.reduceMul, Nat.reduceEqDiff, Go.Addr.add, ↓reduceIte] at hx197_0)
                              have qi197 : (1 < l0.length) = True := eq_true (by omega)
                              (try rw [show ((1 : Int)).toNat = 1 from rfl] at hx197_0)
                              have hn197_0 : ad176.block ≠ gb195 := Nat.ne_of_lt (Nat.lt_of_lt_of_le (by have := World.block_lt_of_cell? _ _ hx197_0; first | rwa [add_block] at this | exact this) GW195.out)
                              replace hx197_0 := (HB.out.cell (World.block_lt_of_cell? w _ hx197_0)).trans hx197_0
                              replace hx197_0 := (cell_far (p := ⟨gb195, 2, none⟩) (by first | (rw [add_block]; exact hn197_0) | (show (Addr.add _ _).block ≠ _; rw [add_block]; exact hn197_0) | exact hn197_0) (.int .i64 (wrap64 ((wrap64 (Go.bits .and .u8 (rd l0 1) 7)) + (wrap64 ((wrap64 (Go.bits .and .u8 a1 1)) * 8)))))).trans hx197_0
                              clear hn197_0
                              replace p197 := eq_true p197
                              replace q197 := eq_true q197
                              have p198 : 0 ≤ (1 : Int) := (by omega)
                              have q198 : 1 < (l0.length : Int) := of_decide_eq_true (by first | (with_reducible assumption) | assumption)
                              obtain ⟨ad198, e198, hx198_0⟩ := Kd.at_int HR0.out 1 p198 q198
                              obtain rfl : ad176 = ad198 := (by injection e198)
                              (try simp only [show (1 : Int).toNat = 1 from rfl, Nat.reduceMul, Nat.reduceEqDiff, Go.Addr.add, ↓reduceIte] at hx198_0)
                              have qi198 : (1 < l0.length) = True := eq_true (by omega)
                              (try rw [show ((1 : Int)).toNat = 1 from rfl] at hx198_0)
                              have hn198_0 : ad176.block ≠ gb195 := Nat.ne_of_lt (Nat.lt_of_lt_of_le (by have := World.block_lt_of_cell? _ _ hx198_0; first | rwa [add_block] at this | exact this) GW195.out)
                              replace hx198_0 := (HB.out.cell (World.block_lt_of_cell? w _ hx198_0)).trans hx198_0
                              replace hx198_0 := (cell_far (p := ⟨gb195, 2, none⟩) (by first | (rw [add_block]; exact hn198_0) | (show (Addr.add _ _).block ≠ _; rw [add_block]; exact hn198_0) | exact hn198_0) (.int .i64 (wrap64 ((wrap64 (Go.bits .and .u8 (rd l0 1) 7)) + (wrap64 ((wrap64 (Go.bits .and .u8 a1 1)) * 8)))))).trans hx198_0
                              clear hn198_0
                              replace p198 := eq_true p198
                              replace q198 := eq_true q198
                              go_wp2
                              go_meet
                              case rel => exact ⟨_, (2), (4), (0), (0), (0), (0), (0), (0), (false), (0), ((-1)), (t190), (t191), (t193), (by first | rfl | (simp; done) | (simp [*]; done)), (by first | rfl | (simp; done) | (simp [*]; done)), H', ⟨by have := HJ13.out; have := HJ21.out; first | omega | exact Nat.le_refl _⟩, ⟨by (with_reducible repeat (first | refine bN_ ?_ _ | refine bD_ ?_ | refine bA_ ?_ _)); refine blk_far ?_ NB175_195.out _; (with_reducible repeat (first | refine bN_ ?_ _ | refine bD_ ?_ | refine bA_ ?_ _)); refine blk_far ?_ NB175_195.out _; (with_reducible repeat (first | refine bN_ ?_ _ | refine bD_ ?_ | refine bA_ ?_ _)); exact BK175.out⟩, ⟨by (with_reducible repeat (first | refine bN_ ?_ _ | refine bD_ ?_ | refine bA_ ?_ _)); refine blk_put (cs := #[.int .u8 t187, .int .i64 t188, .int .i64 (wrap64 ((wrap64 (Go.bits .and .u8 (rd l0 1) 7)) + (wrap64 ((wrap64 (Go.bits .and .u8 a1 1)) * 8)))), .int .i64 t190, .int .i64 t191, .int .i64 t192, .bool t193, .int .i64 t194]) ?_ 2 _ rfl; (with_reducible repeat (first | refine bN_ ?_ _ | refine bD_ ?_ | refine bA_ ?_ _)); refine blk_put (cs := #[.int .u8 t187, .int .i64 t188, .int .i64 t189, .int .i64 t190, .int .i64 t191, .int .i64 t192, .bool t193, .int .i64 t194]) ?_ 2 _ rfl; (with_reducible repeat (first | refine bN_ ?_ _ | refine bD_ ?_ | refine bA_ ?_ _)); exact BK195.out⟩, ⟨by repeat (first | (with_reducible first | exact HB.out | apply bX_ | apply bW_ | apply bY_ | refine bS_ ?_ GE175.out | refine bS_ ?_ GE195.out) | exact HB.out)⟩⟩
                            · rw [if_neg c32] at H
                              have c32b0 : (((rd l0 0) / 64) == 0) = false := beq_eq_false_iff_ne.mpr c32
                              have c32b1 : (((rd l0 0) / 64) != 0) = true := bne_iff_ne.mpr c32
                              have H' := Aside0.mk H
                              clear H
                              have p196 : 0 ≤ (1 : Int) := (by omega)
                              have q196 : 1 < (l0.length : Int) := of_decide_eq_true (by first | (with_reducible assumption) | assumption)
                              obtain ⟨ad196, e196, hx196_0⟩ := Kd.at_int HR0.out 1 p196 q196
                              obtain rfl : ad176 = ad196 := (by injection e196)
                              (try simp only [show (1 : Int).toNat = 1 from rfl, Nat.reduceMul, Nat.reduceEqDiff, Go.Addr.add, ↓reduceIte] at hx196_0)
                              have qi196 : (1 < l0.length) = True := eq_true (by omega)
                              (try rw [show ((1 : Int)).toNat = 1 from rfl] at hx196_0)
                              replace hx196_0 := (HB.out.cell (World.block_lt_of_cell? w _ hx196_0)).trans hx196_0
                              replace p196 := eq_true p196
                              replace q196 := eq_true q196
                              have hnb35 := NB195_175.out
                              have hnc35 := NB175_195.out
                              have hcz36_0 : wc.cell? ⟨gb195, 0, none⟩ = some (.int .u8 t187) := (bC_ BK195.out 0).trans rfl
                              have hcz36_1 : wc.cell? ⟨gb195, 1, none⟩ = some (.int .i64 t188) := (bC_ BK195.out 1).trans rfl
                              have hcz36_2 : wc.cell? ⟨gb195, 2, none⟩ = some (.int .i64 t189) := (bC_ BK195.out 2).trans rfl
                              have hcz36_3 : wc.cell? ⟨gb195, 3, none⟩ = some (.int .i64 t190) := (bC_ BK195.out 3).trans rfl
                              have hcz36_4 : wc.cell? ⟨gb195, 4, none⟩ = some (.int .i64 t191) := (bC_ BK195.out 4).trans rfl
                              have hcz36_5 : wc.cell? ⟨gb195, 5, none⟩ = some (.int .i64 t192) := (bC_ BK195.out 5).trans rfl
                              have hcz36_6 : wc.cell? ⟨gb195, 6, none⟩ = some (.bool t193) := (bC_ BK195.out 6).trans rfl
                              have hcz36_7 : wc.cell? ⟨gb195, 7, none⟩ = some (.int .i64 t194) := (bC_ BK195.out 7).trans rfl
                              have hfz36_0 := bF_ BK195.out 0
                              have hfz36_1 := bF_ BK195.out 1
                              have hfz36_2 := bF_ BK195.out 2
                              have hfz36_3 := bF_ BK195.out 3
                              have hfz36_4 := bF_ BK195.out 4
                              have hfz36_5 := bF_ BK195.out 5
                              have hfz36_6 := bF_ BK195.out 6
                              have hfz36_7 := bF_ BK195.out 7
                              have p197 : 0 ≤ (1 : Int) := (by omega)
                              have q197 : 1 < (l0.length : Int) := of_decide_eq_true (by first | (with_reducible assumption) | assumption)
                              obtain ⟨ad197, e197, hx197_0⟩ := Kd.at_int HR0.out 1 p197 q197
                              obtain rfl : ad176 = ad197 := (by injection e197)
                              (try simp only [show (1 : Int).toNat = 1 from rfl, Nat.reduceMul, Nat.reduceEqDiff, Go.Addr.add, ↓reduceIte] at hx197_0)
                              have qi197 : (1 < l0.length) = True := eq_true (by omega)
                              (try rw [show ((1 : Int)).toNat = 1 from rfl] at hx197_0)
                              have hn197_0 : ad176.block ≠ gb195 := Nat.ne_of_lt (Nat.lt_of_lt_of_le (by have := World.block_lt_of_cell? _ _ hx197_0; first | rwa [add_block] at this | exact this) GW195.out)
                              replace hx197_0 := (HB.out.cell (World.block_lt_of_cell? w _ hx197_0)).trans hx197_0
                              replace hx197_0 := (cell_far (p := ⟨gb195, 2, none⟩) (by first | (rw [add_block]; exact hn197_0) | (show (Addr.add _ _).block ≠ _; rw [add_block]; exact hn197_0) | exact hn197_0) (.int .i64 (wrap64 ((wrap64 (Go.bits .and .u8 (rd l0 1) 7)) + (wrap64 ((wrap64 (Go.bits .and .u8 a1 1)) * 8)))))).trans hx197_0
                              clear hn197_0
                              replace p197 := eq_true p197
                              replace q197 := eq_true q197
                              have p198 : 0 ≤ (1 : Int) := (by omega)
                              have q198 : 1 < (l0.length : Int) := of_decide_eq_true (by first | (with_reducible assumption) | assumption)
                              obtain ⟨ad198, e198, hx198_0⟩ := Kd.at_int HR0.out 1 p198 q198
                              obtain rfl : ad176 = ad198 := (by injection e198)
                              (try simp only [show (1 : Int).toNat = 1 from rfl, Nat.reduceMul, Nat.reduceEqDiff, Go.Addr.add, ↓reduceIte] at hx198_0)
                              have qi198 : (1 < l0.length) = True := eq_true (by omega)
                              (try rw [show ((1 : Int)).toNat = 1 from rfl] at hx198_0)
                              have hn198_0 : ad176.block ≠ gb195 := Nat.ne_of_lt (Nat.lt_of_lt_of_le (by have := World.block_lt_of_cell? _ _ hx198_0; first | rwa [add_block] at this | exact this) GW195.out)
                              replace hx198_0 := (HB.out.cell (World.block_lt_of_cell? w _ hx198_0)).trans hx198_0
                              replace hx198_0 := (cell_far (p := ⟨gb195, 2, none⟩) (by first | (rw [add_block]; exact hn198_0) | (show (Addr.add _ _).block ≠ _; rw [add_block]; exact hn198_0) | exact hn198_0) (.int .i64 (wrap64 ((wrap64 (Go.bits .and .u8 (rd l0 1) 7)) + (wrap64 ((wrap64 (Go.bits .and .u8 a1 1)) * 8)))))).trans hx198_0
                              clear hn198_0
                              replace p198 := eq_true p198
                              replace q198 := eq_true q198
                              go_wp2
                              go_meet
                              case rel => exact ⟨_, (2), (x13_21), (0), (0), (0), (0), (0), (0), (false), (0), (wrap64 ((wrap64 (Go.bits .and .u8 (rd l0 1) 7)) + (wrap64 ((wrap64 (Go.bits .and .u8 a1 1)) * 8)))), (t190), (t191), (t193), (by first | rfl | (simp; done) | (simp [*]; done)), (by first | rfl | (simp; done) | (simp [*]; done)), H', ⟨by have := HJ13.out; have := HJ21.out; first | omega | exact Nat.le_refl _⟩, ⟨by (with_reducible repeat (first | refine bN_ ?_ _ | refine bD_ ?_ | refine bA_ ?_ _)); refine blk_far ?_ NB175_195.out _; (with_reducible repeat (first | refine bN_ ?_ _ | refine bD_ ?_ | refine bA_ ?_ _)); exact BK175.out⟩, ⟨by (with_reducible repeat (first | refine bN_ ?_ _ | refine bD_ ?_ | refine bA_ ?_ _)); refine blk_put (cs := #[.int .u8 t187, .int .i64 t188, .int .i64 t189, .int .i64 t190, .int .i64 t191, .int .i64 t192, .bool t193, .int .i64 t194]) ?_ 2 _ rfl; (with_reducible repeat (first | refine bN_ ?_ _ | refine bD_ ?_ | refine bA_ ?_ _)); exact BK195.out⟩, ⟨by repeat (first | (with_reducible first | exact HB.out | apply bX_ | apply bW_ | apply bY_ | refine bS_ ?_ GE175.out | refine bS_ ?_ GE195.out) | exact HB.out)⟩⟩
                          · rw [if_neg c31] at H
                            have c31b0 : ((Go.bits .and .u8 (rd l0 1) 7) == 5) = false := beq_eq_false_iff_ne.mpr c31
                            have c31b1 : ((Go.bits .and .u8 (rd l0 1) 7) != 5) = true := bne_iff_ne.mpr c31
                            have H' := Aside0.mk H
                            clear H
                            have p196 : 0 ≤ (1 : Int) := (by omega)
                            have q196 : 1 < (l0.length : Int) := of_decide_eq_true (by first | (with_reducible assumption) | assumption)
                            obtain ⟨ad196, e196, hx196_0⟩ := Kd.at_int HR0.out 1 p196 q196
                            obtain rfl : ad176 = ad196 := (by injection e196)
                            (try simp only [show (1 : Int).toNat = 1 from rfl, Nat.reduceMul, Nat.reduceEqDiff, Go.Addr.add, ↓reduceIte] at hx196_0)
                            have qi196 : (1 < l0.length) = True := eq_true (by omega)
                            (try rw [show ((1 : Int)).toNat = 1 from rfl] at hx196_0)
                            replace hx196_0 := (HB.out.cell (World.block_lt_of_cell? w _ hx196_0)).trans hx196_0
                            replace p196 := eq_true p196
                            replace q196 := eq_true q196
                            have hnb37 := NB195_175.out
                            have hnc37 := NB175_195.out
                            have hcz38_0 : wc.cell? ⟨gb195, 0, none⟩ = some (.int .u8 t187) := (bC_ BK195.out 0).trans rfl
                            have hcz38_1 : wc.cell? ⟨gb195, 1, none⟩ = some (.int .i64 t188) := (bC_ BK195.out 1).trans rfl
                            have hcz38_2 : wc.cell? ⟨gb195, 2, none⟩ = some (.int .i64 t189) := (bC_ BK195.out 2).trans rfl
                            have hcz38_3 : wc.cell? ⟨gb195, 3, none⟩ = some (.int .i64 t190) := (bC_ BK195.out 3).trans rfl
                            have hcz38_4 : wc.cell? ⟨gb195, 4, none⟩ = some (.int .i64 t191) := (bC_ BK195.out 4).trans rfl
                            have hcz38_5 : wc.cell? ⟨gb195, 5, none⟩ = some (.int .i64 t192) := (bC_ BK195.out 5).trans rfl
                            have hcz38_6 : wc.cell? ⟨gb195, 6, none⟩ = some (.bool t193) := (bC_ BK195.out 6).trans rfl
                            have hcz38_7 : wc.cell? ⟨gb195, 7, none⟩ = some (.int .i64 t194) := (bC_ BK195.out 7).trans rfl
                            have hfz38_0 := bF_ BK195.out 0
                            have hfz38_1 := bF_ BK195.out 1
                            have hfz38_2 := bF_ BK195.out 2
                            have hfz38_3 := bF_ BK195.out 3
                            have hfz38_4 := bF_ BK195.out 4
                            have hfz38_5 := bF_ BK195.out 5
                            have hfz38_6 := bF_ BK195.out 6
                            have hfz38_7 := bF_ BK195.out 7
                            have p197 : 0 ≤ (1 : Int) := (by omega)
                            have q197 : 1 < (l0.length : Int) := of_decide_eq_true (by first | (with_reducible assumption) | assumption)
                            obtain ⟨ad197, e197, hx197_0⟩ := Kd.at_int HR0.out 1 p197 q197
                            obtain rfl : ad176 = ad197 := (by injection e197)
                            (try simp only [show (1 : Int).toNat = 1 from rfl, Nat.reduceMul, Nat.reduceEqDiff, Go.Addr.add, ↓reduceIte] at hx197_0)
                            have qi197 : (1 < l0.length) = True := eq_true (by omega)
                            (try rw [show ((1 : Int)).toNat = 1 from rfl] at hx197_0)
                            have hn197_0 : ad176.block ≠ gb195 := Nat.ne_of_lt (Nat.lt_of_lt_of_le (by have := World.block_lt_of_cell? _ _ hx197_0; first | rwa [add_block] at this | exact this) GW195.out)
                            replace hx197_0 := (HB.out.cell (World.block_lt_of_cell? w _ hx197_0)).trans hx197_0
                            replace hx197_0 := (cell_far (p := ⟨gb195, 2, none⟩) (by first | (rw [add_block]; exact hn197_0) | (show (Addr.add _ _).block ≠ _; rw [add_block]; exact hn197_0) | exact hn197_0) (.int .i64 (wrap64 ((wrap64 (Go.bits .and .u8 (rd l0 1) 7)) + (wrap64 ((wrap64 (Go.bits .and .u8 a1 1)) * 8)))))).trans hx197_0
                            clear hn197_0
                            replace p197 := eq_true p197
                            replace q197 := eq_true q197
                            have p198 : 0 ≤ (1 : Int) := (by omega)
                            have q198 : 1 < (l0.length : Int) := of_decide_eq_true (by first | (with_reducible assumption) | assumption)
                            obtain ⟨ad198, e198, hx198_0⟩ := Kd.at_int HR0.out 1 p198 q198
                            obtain rfl : ad176 = ad198 := (by injection e198)
                            (try simp only [show (1 : Int).toNat = 1 from rfl, Nat.reduceMul, Nat.reduceEqDiff, Go.Addr.add, ↓reduceIte] at hx198_0)
                            have qi198 : (1 < l0.length) = True := eq_true (by omega)
                            (try rw [show ((1 : Int)).toNat = 1 from rfl] at hx198_0)
                            have hn198_0 : ad176.block ≠ gb195 := Nat.ne_of_lt (Nat.lt_of_lt_of_le (by have := World.block_lt_of_cell? _ _ hx198_0; first | rwa [add_block] at this | exact this) GW195.out)
                            replace hx198_0 := (HB.out.cell (World.block_lt_of_cell? w _ hx198_0)).trans hx198_0
                            replace hx198_0 := (cell_far (p := ⟨gb195, 2, none⟩) (by first | (rw [add_block]; exact hn198_0) | (show (Addr.add _ _).block ≠ _; rw [add_block]; exact hn198_0) | exact hn198_0) (.int .i64 (wrap64 ((wrap64 (Go.bits .and .u8 (rd l0 1) 7)) + (wrap64 ((wrap64 (Go.bits .and .u8 a1 1)) * 8)))))).trans hx198_0
                            clear hn198_0
                            replace p198 := eq_true p198
                            replace q198 := eq_true q198
                            go_wp2
                            go_meet
                            case rel => exact ⟨_, (2), (x13_21), (0), (0), (0), (0), (0), (0), (false), (0), (wrap64 ((wrap64 (Go.bits .and .u8 (rd l0 1) 7)) + (wrap64 ((wrap64 (Go.bits .and .u8 a1 1)) * 8)))), (t190), (t191), (t193), (by first | rfl | (simp; done) | (simp [*]; done)), (by first | rfl | (simp; done) | (simp [*]; done)), H', ⟨by have := HJ13.out; have := HJ21.out; first | omega | exact Nat.le_refl _⟩, ⟨by (with_reducible repeat (first | refine bN_ ?_ _ | refine bD_ ?_ | refine bA_ ?_ _)); refine blk_far ?_ NB175_195.out _; (with_reducible repeat (first | refine bN_ ?_ _ | refine bD_ ?_ | refine bA_ ?_ _)); exact BK175.out⟩, ⟨by (with_reducible repeat (first | refine bN_ ?_ _ | refine bD_ ?_ | refine bA_ ?_ _)); refine blk_put (cs := #[.int .u8 t187, .int .i64 t188, .int .i64 t189, .int .i64 t190, .int .i64 t191, .int .i64 t192, .bool t193, .int .i64 t194]) ?_ 2 _ rfl; (with_reducible repeat (first | refine bN_ ?_ _ | refine bD_ ?_ | refine bA_ ?_ _)); exact BK195.out⟩, ⟨by repeat (first | (with_reducible first | exact HB.out | apply bX_ | apply bW_ | apply bY_ | refine bS_ ?_ GE175.out | refine bS_ ?_ GE195.out) | exact HB.out)⟩⟩
                        · rw [if_neg c30] at H
                          have c30b0 : ((wrap64 ((wrap64 (Go.bits .and .u8 ((rd l0 1) / 8) 7)) + (wrap64 ((wrap64 (Go.bits .and .u8 (a1 / 2) 1)) * 8)))) == 4) = false := beq_eq_false_iff_ne.mpr c30
                          have c30b1 : ((wrap64 ((wrap64 (Go.bits .and .u8 ((rd l0 1) / 8) 7)) + (wrap64 ((wrap64 (Go.bits .and .u8 (a1 / 2) 1)) * 8)))) != 4) = true := bne_iff_ne.mpr c30
                          obtain ⟨ji39, hji39⟩ : ∃ j_ : Int, (IntKind.u64.wrap ((rd l0 1) / 64)) = j_ := ⟨_, rfl⟩
                          replace H : (if 0 ≤ (ji39) then (if (Go.bits .and .u8 (rd l0 1) 7) = 5 then (if ((rd l0 0) / 64) = 0 then (r8_Take.j2 kj21 l0 (wrap64 ((wrap64 (Go.bits .and .u8 ((rd l0 0) / 8) 7)) + (wrap64 ((wrap64 (Go.bits .and .u8 (a1 / 4) 1)) * 8)))) 2 4 t187 t188 (-1) (wrap64 ((wrap64 (Go.bits .and .u8 ((rd l0 1) / 8) 7)) + (wrap64 ((wrap64 (Go.bits .and .u8 (a1 / 2) 1)) * 8)))) (shl .i64 1 (ji39)) t192 t193 t194) else (r8_Take.j2 kj21 l0 (wrap64 ((wrap64 (Go.bits .and .u8 ((rd l0 0) / 8) 7)) + (wrap64 ((wrap64 (Go.bits .and .u8 (a1 / 4) 1)) * 8)))) 2 x13_21 t187 t188 (wrap64 ((wrap64 (Go.bits .and .u8 (rd l0 1) 7)) + (wrap64 ((wrap64 (Go.bits .and .u8 a1 1)) * 8)))) (wrap64 ((wrap64 (Go.bits .and .u8 ((rd l0 1) / 8) 7)) + (wrap64 ((wrap64 (Go.bits .and .u8 (a1 / 2) 1)) * 8)))) (shl .i64 1 (ji39)) t192 t193 t194)) else (r8_Take.j2 kj21 l0 (wrap64 ((wrap64 (Go.bits .and .u8 ((rd l0 0) / 8) 7)) + (wrap64 ((wrap64 (Go.bits .and .u8 (a1 / 4) 1)) * 8)))) 2 x13_21 t187 t188 (wrap64 ((wrap64 (Go.bits .and .u8 (rd l0 1) 7)) + (wrap64 ((wrap64 (Go.bits .and .u8 a1 1)) * 8)))) (wrap64 ((wrap64 (Go.bits .and .u8 ((rd l0 1) / 8) 7)) + (wrap64 ((wrap64 (Go.bits .and .u8 (a1 / 2) 1)) * 8)))) (shl .i64 1 (ji39)) t192 t193 t194)) else (none)) = some (r1, r2, r3, r4, r5, r6, r7, r8, r9, r10, r11) := by first | (rw [hji39] at H; exact H) | (simp only [hji39] at H ⊢; exact H)
                          by_cases c40 : 0 ≤ (ji39)
                          · rw [if_pos c40] at H
                            have c40b0 := eq_true c40
                            have c40b1 : decide (0 ≤ (ji39)) = true := decide_eq_true c40
                            clear c40
                            obtain ⟨ji41, hji41⟩ : ∃ j_ : Int, (shl .i64 1 (ji39)) = j_ := ⟨_, rfl⟩
                            replace H : (if (Go.bits .and .u8 (rd l0 1) 7) = 5 then (if ((rd l0 0) / 64) = 0 then (r8_Take.j2 kj21 l0 (wrap64 ((wrap64 (Go.bits .and .u8 ((rd l0 0) / 8) 7)) + (wrap64 ((wrap64 (Go.bits .and .u8 (a1 / 4) 1)) * 8)))) 2 4 t187 t188 (-1) (wrap64 ((wrap64 (Go.bits .and .u8 ((rd l0 1) / 8) 7)) + (wrap64 ((wrap64 (Go.bits .and .u8 (a1 / 2) 1)) * 8)))) ji41 t192 t193 t194) else (r8_Take.j2 kj21 l0 (wrap64 ((wrap64 (Go.bits .and .u8 ((rd l0 0) / 8) 7)) + (wrap64 ((wrap64 (Go.bits .and .u8 (a1 / 4) 1)) * 8)))) 2 x13_21 t187 t188 (wrap64 ((wrap64 (Go.bits .and .u8 (rd l0 1) 7)) + (wrap64 ((wrap64 (Go.bits .and .u8 a1 1)) * 8)))) (wrap64 ((wrap64 (Go.bits .and .u8 ((rd l0 1) / 8) 7)) + (wrap64 ((wrap64 (Go.bits .and .u8 (a1 / 2) 1)) * 8)))) ji41 t192 t193 t194)) else (r8_Take.j2 kj21 l0 (wrap64 ((wrap64 (Go.bits .and .u8 ((rd l0 0) / 8) 7)) + (wrap64 ((wrap64 (Go.bits .and .u8 (a1 / 4) 1)) * 8)))) 2 x13_21 t187 t188 (wrap64 ((wrap64 (Go.bits .and .u8 (rd l0 1) 7)) + (wrap64 ((wrap64 (Go.bits .and .u8 a1 1)) * 8)))) (wrap64 ((wrap64 (Go.bits .and .u8 ((rd l0 1) / 8) 7)) + (wrap64 ((wrap64 (Go.bits .and .u8 (a1 / 2) 1)) * 8)))) ji41 t192 t193 t194)) = some (r1, r2, r3, r4, r5, r6, r7, r8, r9, r10, r11) := by first | (rw [hji41] at H; exact H) | (simp only [hji41] at H ⊢; exact H)
                            have hji41_ : (IntKind.i64.wrap (1 * 2 ^ min (ji39).toNat 64)) = ji41 := hji41
                            have hji41z : (ji39) ≤ 64 → (IntKind.i64.wrap (1 * 2 ^ (ji39).toNat)) = ji41 := shl_small hji41
                            have hji41u : (IntKind.i64.wrap (2 ^ min (ji39).toNat 64)) = ji41 := by have h_ := hji41_; rw [Int.one_mul] at h_; exact h_
                            have hji41v : (ji39) ≤ 64 → (IntKind.i64.wrap (2 ^ (ji39).toNat)) = ji41 := fun hle_ => by have h_ := hji41z hle_; rw [Int.one_mul] at h_; exact h_
                            have hji41y : (wrap64 (1 * 2 ^ min (ji39).toNat 64)) = ji41 := (i64_w _).symm.trans hji41_
                            have hji41x : (ji39) ≤ 64 → (wrap64 (1 * 2 ^ (ji39).toNat)) = ji41 := fun h_ => (i64_w _).symm.trans (hji41z h_)
                            by_cases c42 : (Go.bits .and .u8 (rd l0 1) 7) = 5
                            · rw [if_pos c42] at H
                              have c42b0 : ((Go.bits .and .u8 (rd l0 1) 7) == 5) = true := beq_iff_eq.mpr c42
                              have c42b1 : ((Go.bits .and .u8 (rd l0 1) 7) != 5) = false := bne_eq_false_iff_eq.mpr c42
                              clear c42
                              by_cases c43 : ((rd l0 0) / 64) = 0
                              · rw [if_pos c43] at H
                                have c43b0 : (((rd l0 0) / 64) == 0) = true := beq_iff_eq.mpr c43
                                have c43b1 : (((rd l0 0) / 64) != 0) = false := bne_eq_false_iff_eq.mpr c43
                                clear c43
                                have H' := Aside0.mk H
                                clear H
                                have p196 : 0 ≤ (1 : Int) := (by omega)
                                have q196 : 1 < (l0.length : Int) := of_decide_eq_true (by first | (with_reducible assumption) | assumption)
                                obtain ⟨ad196, e196, hx196_0⟩ := Kd.at_int HR0.out 1 p196 q196
                                obtain rfl : ad176 = ad196 := (by injection e196)
                                (try simp only [show (1 : Int).toNat = 1 from rfl, Nat.reduceMul, Nat.reduceEqDiff, Go.Addr.add, ↓reduceIte] at hx196_0)
                                have qi196 : (1 < l0.length) = True := eq_true (by omega)
                                (try rw [show ((1 : Int)).toNat = 1 from rfl] at hx196_0)
                                replace hx196_0 := (HB.out.cell (World.block_lt_of_cell? w _ hx196_0)).trans hx196_0
                                replace p196 := eq_true p196
                                replace q196 := eq_true q196
                                have hnb44 := NB195_175.out
                                have hnc44 := NB175_195.out
                                have hcz45_0 : wc.cell? ⟨gb195, 0, none⟩ = some (.int .u8 t187) := (bC_ BK195.out 0).trans rfl
                                have hcz45_1 : wc.cell? ⟨gb195, 1, none⟩ = some (.int .i64 t188) := (bC_ BK195.out 1).trans rfl
                                have hcz45_2 : wc.cell? ⟨gb195, 2, none⟩ = some (.int .i64 t189) := (bC_ BK195.out 2).trans rfl
                                have hcz45_3 : wc.cell? ⟨gb195, 3, none⟩ = some (.int .i64 t190) := (bC_ BK195.out 3).trans rfl
                                have hcz45_4 : wc.cell? ⟨gb195, 4, none⟩ = some (.int .i64 t191) := (bC_ BK195.out 4).trans rfl
                                have hcz45_5 : wc.cell? ⟨gb195, 5, none⟩ = some (.int .i64 t192) := (bC_ BK195.out 5).trans rfl
                                have hcz45_6 : wc.cell? ⟨gb195, 6, none⟩ = some (.bool t193) := (bC_ BK195.out 6).trans rfl
                                have hcz45_7 : wc.cell? ⟨gb195, 7, none⟩ = some (.int .i64 t194) := (bC_ BK195.out 7).trans rfl
                                have hfz45_0 := bF_ BK195.out 0
                                have hfz45_1 := bF_ BK195.out 1
                                have hfz45_2 := bF_ BK195.out 2
                                have hfz45_3 := bF_ BK195.out 3
                                have hfz45_4 := bF_ BK195.out 4
                                have hfz45_5 := bF_ BK195.out 5
                                have hfz45_6 := bF_ BK195.out 6
                                have hfz45_7 := bF_ BK195.out 7
                                have p197 : 0 ≤ (1 : Int) := (by omega)
                                have q197 : 1 < (l0.length : Int) := of_decide_eq_true (by first | (with_reducible assumption) | assumption)
                                obtain ⟨ad197, e197, hx197_0⟩ := Kd.at_int HR0.out 1 p197 q197
                                obtain rfl : ad176 = ad197 := (by injection e197)
                                (try simp only [show (1 : Int).toNat = 1 from rfl, Nat.reduceMul, Nat.reduceEqDiff, Go.Addr.add, ↓reduceIte] at hx197_0)
                                have qi197 : (1 < l0.length) = True := eq_true (by omega)
                                (try rw [show ((1 : Int)).toNat = 1 from rfl] at hx197_0)
                                have hn197_0 : ad176.block ≠ gb195 := Nat.ne_of_lt (Nat.lt_of_lt_of_le (by have := World.block_lt_of_cell? _ _ hx197_0; first | rwa [add_block] at this | exact this) GW195.out)
                                replace hx197_0 := (HB.out.cell (World.block_lt_of_cell? w _ hx197_0)).trans hx197_0
                                replace hx197_0 := (cell_far (p := ⟨gb195, 2, none⟩) (by first | (rw [add_block]; exact hn197_0) | (show (Addr.add _ _).block ≠ _; rw [add_block]; exact hn197_0) | exact hn197_0) (.int .i64 (wrap64 ((wrap64 (Go.bits .and .u8 (rd l0 1) 7)) + (wrap64 ((wrap64 (Go.bits .and .u8 a1 1)) * 8)))))).trans hx197_0
                                clear hn197_0
                                replace p197 := eq_true p197
                                replace q197 := eq_true q197
                                have p199 : 0 ≤ (1 : Int) := (by omega)
                                have q199 : 1 < (l0.length : Int) := of_decide_eq_true (by first | (with_reducible assumption) | assumption)
                                obtain ⟨ad199, e199, hx199_0⟩ := Kd.at_int HR0.out 1 p199 q199
                                obtain rfl : ad176 = ad199 := (by injection e199)
                                (try simp only [show (1 : Int).toNat = 1 from rfl, Nat.reduceMul, Nat.reduceEqDiff, Go.Addr.add, ↓reduceIte] at hx199_0)
                                have qi199 : (1 < l0.length) = True := eq_true (by omega)
                                (try rw [show ((1 : Int)).toNat = 1 from rfl] at hx199_0)
                                have hn199_0 : ad176.block ≠ gb195 := Nat.ne_of_lt (Nat.lt_of_lt_of_le (by have := World.block_lt_of_cell? _ _ hx199_0; first | rwa [add_block] at this | exact this) GW195.out)
                                have hn199_1 : ad176.block ≠ gb195 := Nat.ne_of_lt (Nat.lt_of_lt_of_le (by have := World.block_lt_of_cell? _ _ hx199_0; first | rwa [add_block] at this | exact this) GW195.out)
                                replace hx199_0 := (HB.out.cell (World.block_lt_of_cell? w _ hx199_0)).trans hx199_0
                                replace hx199_0 := (cell_far (p := ⟨gb195, 2, none⟩) (by first | (rw [add_block]; exact hn199_0) | (show (Addr.add _ _).block ≠ _; rw [add_block]; exact hn199_0) | exact hn199_0) (.int .i64 (wrap64 ((wrap64 (Go.bits .and .u8 (rd l0 1) 7)) + (wrap64 ((wrap64 (Go.bits .and .u8 a1 1)) * 8)))))).trans hx199_0
                                replace hx199_0 := (cell_far (p := ⟨gb195, 3, none⟩) (by first | (rw [add_block]; exact hn199_1) | (show (Addr.add _ _).block ≠ _; rw [add_block]; exact hn199_1) | exact hn199_1) (.int .i64 (wrap64 ((wrap64 (Go.bits .and .u8 ((rd l0 1) / 8) 7)) + (wrap64 ((wrap64 (Go.bits .and .u8 (a1 / 2) 1)) * 8)))))).trans hx199_0
                                clear hn199_0
                                clear hn199_1
                                replace p199 := eq_true p199
                                replace q199 := eq_true q199
                                have p200 : 0 ≤ (1 : Int) := (by omega)
                                have q200 : 1 < (l0.length : Int) := of_decide_eq_true (by first | (with_reducible assumption) | assumption)
                                obtain ⟨ad200, e200, hx200_0⟩ := Kd.at_int HR0.out 1 p200 q200
                                obtain rfl : ad176 = ad200 := (by injection e200)
                                (try simp only [show (1 : Int).toNat = 1 from rfl, Nat.reduceMul, Nat.reduceEqDiff, Go.Addr.add, ↓reduceIte] at hx200_0)
                                have qi200 : (1 < l0.length) = True := eq_true (by omega)
                                (try rw [show ((1 : Int)).toNat = 1 from rfl] at hx200_0)
                                have hn200_0 : ad176.block ≠ gb195 := Nat.ne_of_lt (Nat.lt_of_lt_of_le (by have := World.block_lt_of_cell? _ _ hx200_0; first | rwa [add_block] at this | exact this) GW195.out)
                                have hn200_1 : ad176.block ≠ gb195 := Nat.ne_of_lt (Nat.lt_of_lt_of_le (by have := World.block_lt_of_cell? _ _ hx200_0; first | rwa [add_block] at this | exact this) GW195.out)
                                have hn200_2 : ad176.block ≠ gb195 := Nat.ne_of_lt (Nat.lt_of_lt_of_le (by have := World.block_lt_of_cell? _ _ hx200_0; first | rwa [add_block] at this | exact this) GW195.out)
                                replace hx200_0 := (HB.out.cell (World.block_lt_of_cell? w _ hx200_0)).trans hx200_0
                                replace hx200_0 := (cell_far (p := ⟨gb195, 2, none⟩) (by first | (rw [add_block]; exact hn200_0) | (show (Addr.add _ _).block ≠ _; rw [add_block]; exact hn200_0) | exact hn200_0) (.int .i64 (wrap64 ((wrap64 (Go.bits .and .u8 (rd l0 1) 7)) + (wrap64 ((wrap64 (Go.bits .and .u8 a1 1)) * 8)))))).trans hx200_0
                                replace hx200_0 := (cell_far (p := ⟨gb195, 3, none⟩) (by first | (rw [add_block]; exact hn200_1) | (show (Addr.add _ _).block ≠ _; rw [add_block]; exact hn200_1) | exact hn200_1) (.int .i64 (wrap64 ((wrap64 (Go.bits .and .u8 ((rd l0 1) / 8) 7)) + (wrap64 ((wrap64 (Go.bits .and .u8 (a1 / 2) 1)) * 8)))))).trans hx200_0
                                replace hx200_0 := (cell_far (p := ⟨gb195, 4, none⟩) (by first | (rw [add_block]; exact hn200_2) | (show (Addr.add _ _).block ≠ _; rw [add_block]; exact hn200_2) | exact hn200_2) (.int .i64 ji41)).trans hx200_0
                                clear hn200_0
                                clear hn200_1
                                clear hn200_2
                                replace p200 := eq_true p200
                                replace q200 := eq_true q200
                                go_wp2
                                go_meet
                                case rel => exact ⟨_, (2), (4), (0), (0), (0), (0), (0), (0), (false), (0), ((-1)), (wrap64 ((wrap64 (Go.bits .and .u8 ((rd l0 1) / 8) 7)) + (wrap64 ((wrap64 (Go.bits .and .u8 (a1 / 2) 1)) * 8)))), (ji41), (t193), (by first | rfl | (simp; done) | (simp [*]; done)), (by first | rfl | (simp; done) | (simp [*]; done)), H', ⟨by have := HJ13.out; have := HJ21.out; first | omega | exact Nat.le_refl _⟩, ⟨by (with_reducible repeat (first | refine bN_ ?_ _ | refine bD_ ?_ | refine bA_ ?_ _)); refine blk_far ?_ NB175_195.out _; (with_reducible repeat (first | refine bN_ ?_ _ | refine bD_ ?_ | refine bA_ ?_ _)); refine blk_far ?_ NB175_195.out _; (with_reducible repeat (first | refine bN_ ?_ _ | refine bD_ ?_ | refine bA_ ?_ _)); refine blk_far ?_ NB175_195.out _; (with_reducible repeat (first | refine bN_ ?_ _ | refine bD_ ?_ | refine bA_ ?_ _)); refine blk_far ?_ NB175_195.out _; (with_reducible repeat (first | refine bN_ ?_ _ | refine bD_ ?_ | refine bA_ ?_ _)); exact BK175.out⟩, ⟨by (with_reducible repeat (first | refine bN_ ?_ _ | refine bD_ ?_ | refine bA_ ?_ _)); refine blk_put (cs := #[.int .u8 t187, .int .i64 t188, .int .i64 (wrap64 ((wrap64 (Go.bits .and .u8 (rd l0 1) 7)) + (wrap64 ((wrap64 (Go.bits .and .u8 a1 1)) * 8)))), .int .i64 (wrap64 ((wrap64 (Go.bits .and .u8 ((rd l0 1) / 8) 7)) + (wrap64 ((wrap64 (Go.bits .and .u8 (a1 / 2) 1)) * 8)))), .int .i64 ji41, .int .i64 t192, .bool t193, .int .i64 t194]) ?_ 2 _ rfl; (with_reducible repeat (first | refine bN_ ?_ _ | refine bD_ ?_ | refine bA_ ?_ _)); refine blk_put (cs := #[.int .u8 t187, .int .i64 t188, .int .i64 (wrap64 ((wrap64 (Go.bits .and .u8 (rd l0 1) 7)) + (wrap64 ((wrap64 (Go.bits .and .u8 a1 1)) * 8)))), .int .i64 (wrap64 ((wrap64 (Go.bits .and .u8 ((rd l0 1) / 8) 7)) + (wrap64 ((wrap64 (Go.bits .and .u8 (a1 / 2) 1)) * 8)))), .int .i64 t191, .int .i64 t192, .bool t193, .int .i64 t194]) ?_ 4 _ rfl; (with_reducible repeat (first | refine bN_ ?_ _ | refine bD_ ?_ | refine bA_ ?_ _)); refine blk_put (cs := #[.int .u8 t187, .int .i64 t188, .int .i64 (wrap64 ((wrap64 (Go.bits .and .u8 (rd l0 1) 7)) + (wrap64 ((wrap64 (Go.bits .and .u8 a1 1)) * 8)))), .int .i64 t190, .int .i64 t191, .int .i64 t192, .bool t193, .int .i64 t194]) ?_ 3 _ rfl; (with_reducible repeat (first | refine bN_ ?_ _ | refine bD_ ?_ | refine bA_ ?_ _)); refine blk_put (cs := #[.int .u8 t187, .int .i64 t188, .int .i64 t189, .int .i64 t190, .int .i64 t191, .int .i64 t192, .bool t193, .int .i64 t194]) ?_ 2 _ rfl; (with_reducible repeat (first | refine bN_ ?_ _ | refine bD_ ?_ | refine bA_ ?_ _)); exact BK195.out⟩, ⟨by repeat (first | (with_reducible first | exact HB.out | apply bX_ | apply bW_ | apply bY_ | refine bS_ ?_ GE175.out | refine bS_ ?_ GE195.out) | exact HB.out)⟩⟩
                              · rw [if_neg c43] at H
                                have c43b0 : (((rd l0 0) / 64) == 0) = false := beq_eq_false_iff_ne.mpr c43
                                have c43b1 : (((rd l0 0) / 64) != 0) = true := bne_iff_ne.mpr c43
                                have H' := Aside0.mk H
                                clear H
                                have p196 : 0 ≤ (1 : Int) := (by omega)
                                have q196 : 1 < (l0.length : Int) := of_decide_eq_true (by first | (with_reducible assumption) | assumption)
                                obtain ⟨ad196, e196, hx196_0⟩ := Kd.at_int HR0.out 1 p196 q196
                                obtain rfl : ad176 = ad196 := (by injection e196)
                                (try simp only [show (1 : Int).toNat = 1 from rfl, Nat.reduceMul, Nat.reduceEqDiff, Go.Addr.add, ↓reduceIte] at hx196_0)
                                have qi196 : (1 < l0.length) = True := eq_true (by omega)
                                (try rw [show ((1 : Int)).toNat = 1 from rfl] at hx196_0)
                                replace hx196_0 := (HB.out.cell (World.block_lt_of_cell? w _ hx196_0)).trans hx196_0
                                replace p196 := eq_true p196
                                replace q196 := eq_true q196
                                have hnb46 := NB195_175.out
                                have hnc46 := NB175_195.out
                                have hcz47_0 : wc.cell? ⟨gb195, 0, none⟩ = some (.int .u8 t187) := (bC_ BK195.out 0).trans rfl
                                have hcz47_1 : wc.cell? ⟨gb195, 1, none⟩ = some (.int .i64 t188) := (bC_ BK195.out 1).trans rfl
                                have hcz47_2 : wc.cell? ⟨gb195, 2, none⟩ = some (.int .i64 t189) := (bC_ BK195.out 2).trans rfl
                                have hcz47_3 : wc.cell? ⟨gb195, 3, none⟩ = some (.int .i64 t190) := (bC_ BK195.out 3).trans rfl
                                have hcz47_4 : wc.cell? ⟨gb195, 4, none⟩ = some (.int .i64 t191) := (bC_ BK195.out 4).trans rfl
                                have hcz47_5 : wc.cell? ⟨gb195, 5, none⟩ = some (.int .i64 t192) := (bC_ BK195.out 5).trans rfl
                                have hcz47_6 : wc.cell? ⟨gb195, 6, none⟩ = some (.bool t193) := (bC_ BK195.out 6).trans rfl
                                have hcz47_7 : wc.cell? ⟨gb195, 7, none⟩ = some (.int .i64 t194) := (bC_ BK195.out 7).trans rfl
                                have hfz47_0 := bF_ BK195.out 0
                                have hfz47_1 := bF_ BK195.out 1
                                have hfz47_2 := bF_ BK195.out 2
                                have hfz47_3 := bF_ BK195.out 3
                                have hfz47_4 := bF_ BK195.out 4
                                have hfz47_5 := bF_ BK195.out 5
                                have hfz47_6 := bF_ BK195.out 6
                                have hfz47_7 := bF_ BK195.out 7
                                have p197 : 0 ≤ (1 : Int) := (by omega)
                                have q197 : 1 < (l0.length : Int) := of_decide_eq_true (by first | (with_reducible assumption) | assumption)
                                obtain ⟨ad197, e197, hx197_0⟩ := Kd.at_int HR0.out 1 p197 q197
                                obtain rfl : ad176 = ad197 := (by injection e197)
                                (try simp only [show (1 : Int).toNat = 1 from rfl, Nat.reduceMul, Nat.reduceEqDiff, Go.Addr.add, ↓reduceIte] at hx197_0)
                                have qi197 : (1 < l0.length) = True := eq_true (by omega)
                                (try rw [show ((1 : Int)).toNat = 1 from rfl] at hx197_0)
                                have hn197_0 : ad176.block ≠ gb195 := Nat.ne_of_lt (Nat.lt_of_lt_of_le (by have := World.block_lt_of_cell? _ _ hx197_0; first | rwa [add_block] at this | exact this) GW195.out)
                                replace hx197_0 := (HB.out.cell (World.block_lt_of_cell? w _ hx197_0)).trans hx197_0
                                replace hx197_0 := (cell_far (p := ⟨gb195, 2, none⟩) (by first | (rw [add_block]; exact hn197_0) | (show (Addr.add _ _).block ≠ _; rw [add_block]; exact hn197_0) | exact hn197_0) (.int .i64 (wrap64 ((wrap64 (Go.bits .and .u8 (rd l0 1) 7)) + (wrap64 ((wrap64 (Go.bits .and .u8 a1 1)) * 8)))))).trans hx197_0
                                clear hn197_0
                                replace p197 := eq_true p197
                                replace q197 := eq_true q197
                                have p199 : 0 ≤ (1 : Int) := (by omega)
                                have q199 : 1 < (l0.length : Int) := of_decide_eq_true (by first | (with_reducible assumption) | assumption)
                                obtain ⟨ad199, e199, hx199_0⟩ := Kd.at_int HR0.out 1 p199 q199
                                obtain rfl : ad176 = ad199 := (by injection e199)
                                (try simp only [show (1 : Int).toNat = 1 from rfl, Nat.reduceMul, Nat.reduceEqDiff, Go.Addr.add, ↓reduceIte] at hx199_0)
                                have qi199 : (1 < l0.length) = True := eq_true (by omega)
                                (try rw [show ((1 : Int)).toNat = 1 from rfl] at hx199_0)
                                have hn199_0 : ad176.block ≠ gb195 := Nat.ne_of_lt (Nat.lt_of_lt_of_le (by have := World.block_lt_of_cell? _ _ hx199_0; first | rwa [add_block] at this | exact this) GW195.out)
                                have hn199_1 : ad176.block ≠ gb195 := Nat.ne_of_lt (Nat.lt_of_lt_of_le (by have := World.block_lt_of_cell? _ _ hx199_0; first | rwa [add_block] at this | exact this) GW195.out)
                                replace hx199_0 := (HB.out.cell (World.block_lt_of_cell? w _ hx199_0)).trans hx199_0
                                replace hx199_0 := (cell_far (p := ⟨gb195, 2, none⟩) (by first | (rw [add_block]; exact hn199_0) | (show (Addr.add _ _).block ≠ _; rw [add_block]; exact hn199_0) | exact hn199_0) (.int .i64 (wrap64 ((wrap64 (Go.bits .and .u8 (rd l0 1) 7)) + (wrap64 ((wrap64 (Go.bits .and .u8 a1 1)) * 8)))))).trans hx199_0
                                replace hx199_0 := (cell_far (p := ⟨gb195, 3, none⟩) (by first | (rw [add_block]; exact hn199_1) | (show (Addr.add _ _).block ≠ _; rw [add_block]; exact hn199_1) | exact hn199_1) (.int .i64 (wrap64 ((wrap64 (Go.bits .and .u8 ((rd l0 1) / 8) 7)) + (wrap64 ((wrap64 (Go.bits .and .u8 (a1 / 2) 1)) * 8)))))).trans hx199_0
                                clear hn199_0
                                clear hn199_1
                                replace p199 := eq_true p199
                                replace q199 := eq_true q199
                                have p200 : 0 ≤ (1 : Int) := (by omega)
                                have q200 : 1 < (l0.length : Int) := of_decide_eq_true (by first | (with_reducible assumption) | assumption)
                                obtain ⟨ad200, e200, hx200_0⟩ := Kd.at_int HR0.out 1 p200 q200
                                obtain rfl : ad176 = ad200 := (by injection e200)
                                (try simp only [show (1 : Int).toNat = 1 from rfl, Nat.reduceMul, Nat.reduceEqDiff, Go.Addr.add, ↓reduceIte] at hx200_0)
                                have qi200 : (1 < l0.length) = True := eq_true (by omega)
                                (try rw [show ((1 : Int)).toNat = 1 from rfl] at hx200_0)
                                have hn200_0 : ad176.block ≠ gb195 := Nat.ne_of_lt (Nat.lt_of_lt_of_le (by have := World.block_lt_of_cell? _ _ hx200_0; first | rwa [add_block] at this | exact this) GW195.out)
                                have hn200_1 : ad176.block ≠ gb195 := Nat.ne_of_lt (Nat.lt_of_lt_of_le (by have := World.block_lt_of_cell? _ _ hx200_0; first | rwa [add_block] at this | exact this) GW195.out)
                                have hn200_2 : ad176.block ≠ gb195 := Nat.ne_of_lt (Nat.lt_of_lt_of_le (by have := World.block_lt_of_cell? _ _ hx200_0; first | rwa [add_block] at this | exact this) GW195.out)
                                replace hx200_0 := (HB.out.cell (World.block_lt_of_cell? w _ hx200_0)).trans hx200_0
                                replace hx200_0 := (cell_far (p := ⟨gb195, 2, none⟩) (by first | (rw [add_block]; exact hn200_0) | (show (Addr.add _ _).block ≠ _; rw [add_block]; exact hn200_0) | exact hn200_0) (.int .i64 (wrap64 ((wrap64 (Go.bits .and .u8 (rd l0 1) 7)) + (wrap64 ((wrap64 (Go.bits .and .u8 a1 1)) * 8)))))).trans hx200_0
                                replace hx200_0 := (cell_far (p := ⟨gb195, 3, none⟩) (by first | (rw [add_block]; exact hn200_1) | (show (Addr.add _ _).block ≠ _; rw [add_block]; exact hn200_1) | exact hn200_1) (.int .i64 (wrap64 ((wrap64 (Go.bits .and .u8 ((rd l0 1) / 8) 7)) + (wrap64 ((wrap64 (Go.bits .and .u8 (a1 / 2) 1)) * 8)))))).trans hx200_0
                                replace hx200_0 := (cell_far (p := ⟨gb195, 4, none⟩) (by first | (rw [add_block]; exact hn200_2) | (show (Addr.add _ _).block ≠ _; rw [add_block]; exact hn200_2) | exact hn200_2) (.int .i64 ji41)).trans hx200_0
                                clear hn200_0
                                clear hn200_1
                                clear hn200_2
                                replace p200 := eq_true p200
                                replace q200 := eq_true q200
                                go_wp2
                                go_meet
                                case rel => exact ⟨_, (2), (x13_21), (0), (0), (0), (0), (0), (0), (false), (0), (wrap64 ((wrap64 (Go.bits .and .u8 (rd l0 1) 7)) + (wrap64 ((wrap64 (Go.bits .and .u8 a1 1)) * 8)))), (wrap64 ((wrap64 (Go.bits .and .u8 ((rd l0 1) / 8) 7)) + (wrap64 ((wrap64 (Go.bits .and .u8 (a1 / 2) 1)) * 8)))), (ji41), (t193), (by first | rfl | (simp; done) | (simp [*]; done)), (by first | rfl | (simp; done) | (simp [*]; done)), H', ⟨by have := HJ13.out; have := HJ21.out; first | omega | exact Nat.le_refl _⟩, ⟨by (with_reducible repeat (first | refine bN_ ?_ _ | refine bD_ ?_ | refine bA_ ?_ _)); refine blk_far ?_ NB175_195.out _; (with_reducible repeat (first | refine bN_ ?_ _ | refine bD_ ?_ | refine bA_ ?_ _)); refine blk_far ?_ NB175_195.out _; (with_reducible repeat (first | refine bN_ ?_ _ | refine bD_ ?_ | refine bA_ ?_ _)); refine blk_far ?_ NB175_195.out _; (with_reducible repeat (first | refine bN_ ?_ _ | refine bD_ ?_ | refine bA_ ?_ _)); exact BK175.out⟩, ⟨by (with_reducible repeat (first | refine bN_ ?_ _ | refine bD_ ?_ | refine bA_ ?_ _)); refine blk_put (cs := #[.int .u8 t187, .int .i64 t188, .int .i64 (wrap64 ((wrap64 (Go.bits .and .u8 (rd l0 1) 7)) + (wrap64 ((wrap64 (Go.bits .and .u8 a1 1)) * 8)))), .int .i64 (wrap64 ((wrap64 (Go.bits .and .u8 ((rd l0 1) / 8) 7)) + (wrap64 ((wrap64 (Go.bits .and .u8 (a1 / 2) 1)) * 8)))), .int .i64 t191, .int .i64 t192, .bool t193, .int .i64 t194]) ?_ 4 _ rfl; (with_reducible repeat (first | refine bN_ ?_ _ | refine bD_ ?_ | refine bA_ ?_ _)); refine blk_put (cs := #[.int .u8 t187, .int .i64 t188, .int .i64 (wrap64 ((wrap64 (Go.bits .and .u8 (rd l0 1) 7)) + (wrap64 ((wrap64 (Go.bits .and .u8 a1 1)) * 8)))), .int .i64 t190, .int .i64 t191, .int .i64 t192, .bool t193, .int .i64 t194]) ?_ 3 _ rfl; (with_reducible repeat (first | refine bN_ ?_ _ | refine bD_ ?_ | refine bA_ ?_ _)); refine blk_put (cs := #[.int .u8 t187, .int .i64 t188, .int .i64 t189, .int .i64 t190, .int .i64 t191, .int .i64 t192, .bool t193, .int .i64 t194]) ?_ 2 _ rfl; (with_reducible repeat (first | refine bN_ ?_ _ | refine bD_ ?_ | refine bA_ ?_ _)); exact BK195.out⟩, ⟨by repeat (first | (with_reducible first | exact HB.out | apply bX_ | apply bW_ | apply bY_ | refine bS_ ?_ GE175.out | refine bS_ ?_ GE195.out) | exact HB.out)⟩⟩
                            · rw [if_neg c42] at H
                              have c42b0 : ((Go.bits .and .u8 (rd l0 1) 7) == 5) = false := beq_eq_false_iff_ne.mpr c42
                              have c42b1 : ((Go.bits .and .u8 (rd l0 1) 7) != 5) = true := bne_iff_ne.mpr c42
                              have H' := Aside0.mk H
                              clear H
                              have p196 : 0 ≤ (1 : Int) := (by omega)
                              have q196 : 1 < (l0.length : Int) := of_decide_eq_true (by first | (with_reducible assumption) | assumption)
                              obtain ⟨ad196, e196, hx196_0⟩ := Kd.at_int HR0.out 1 p196 q196
                              obtain rfl : ad176 = ad196 := (by injection e196)
                              (try simp only [show (1 : Int).toNat = 1 from rfl, Nat.reduceMul, Nat.reduceEqDiff, Go.Addr.add, ↓reduceIte] at hx196_0)
                              have qi196 : (1 < l0.length) = True := eq_true (by omega)
                              (try rw [show ((1 : Int)).toNat = 1 from rfl] at hx196_0)
                              replace hx196_0 := (HB.out.cell (World.block_lt_of_cell? w _ hx196_0)).trans hx196_0
                              replace p196 := eq_true p196
                              replace q196 := eq_true q196
                              have hnb48 := NB195_175.out
                              have hnc48 := NB175_195.out
                              have hcz49_0 : wc.cell? ⟨gb195, 0, none⟩ = some (.int .u8 t187) := (bC_ BK195.out 0).trans rfl
                              have hcz49_1 : wc.cell? ⟨gb195, 1, none⟩ = some (.int .i64 t188) := (bC_ BK195.out 1).trans rfl
                              have hcz49_2 : wc.cell? ⟨gb195, 2, none⟩ = some (.int .i64 t189) := (bC_ BK195.out 2).trans rfl
                              have hcz49_3 : wc.cell? ⟨gb195, 3, none⟩ = some (.int .i64 t190) := (bC_ BK195.out 3).trans rfl
                              have hcz49_4 : wc.cell? ⟨gb195, 4, none⟩ = some (.int .i64 t191) := (bC_ BK195.out 4).trans rfl
                              have hcz49_5 : wc.cell? ⟨gb195, 5, none⟩ = some (.int .i64 t192) := (bC_ BK195.out 5).trans rfl
                              have hcz49_6 : wc.cell? ⟨gb195, 6, none⟩ = some (.bool t193) := (bC_ BK195.out 6).trans rfl
                              have hcz49_7 : wc.cell? ⟨gb195, 7, none⟩ = some (.int .i64 t194) := (bC_ BK195.out 7).trans rfl
                              have hfz49_0 := bF_ BK195.out 0
                              have hfz49_1 := bF_ BK195.out 1
                              have hfz49_2 := bF_ BK195.out 2
                              have hfz49_3 := bF_ BK195.out 3
                              have hfz49_4 := bF_ BK195.out 4
                              have hfz49_5 := bF_ BK195.out 5
                              have hfz49_6 := bF_ BK195.out 6
                              have hfz49_7 := bF_ BK195.out 7
                              have p197 : 0 ≤ (1 : Int) := (by omega)
                              have q197 : 1 < (l0.length : Int) := of_decide_eq_true (by first | (with_reducible assumption) | assumption)
                              obtain ⟨ad197, e197, hx197_0⟩ := Kd.at_int HR0.out 1 p197 q197
                              obtain rfl : ad176 = ad197 := (by injection e197)
                              (try simp only [show (1 : Int).toNat = 1 from rfl, Nat.reduceMul, Nat.reduceEqDiff, Go.Addr.add, ↓reduceIte] at hx197_0)
                              have qi197 : (1 < l0.length) = True := eq_true (by omega)
                              (try rw [show ((1 : Int)).toNat = 1 from rfl] at hx197_0)
                              have hn197_0 : ad176.block ≠ gb195 := Nat.ne_of_lt (Nat.lt_of_lt_of_le (by have := World.block_lt_of_cell? _ _ hx197_0; first | rwa [add_block] at this | exact this) GW195.out)
                              replace hx197_0 := (HB.out.cell (World.block_lt_of_cell? w _ hx197_0)).trans hx197_0
                              replace hx197_0 := (cell_far (p := ⟨gb195, 2, none⟩) (by first | (rw [add_block]; exact hn197_0) | (show (Addr.add _ _).block ≠ _; rw [add_block]; exact hn197_0) | exact hn197_0) (.int .i64 (wrap64 ((wrap64 (Go.bits .and .u8 (rd l0 1) 7)) + (wrap64 ((wrap64 (Go.bits .and .u8 a1 1)) * 8)))))).trans hx197_0
                              clear hn197_0
                              replace p197 := eq_true p197
                              replace q197 := eq_true q197
                              have p199 : 0 ≤ (1 : Int) := (by omega)
                              have q199 : 1 < (l0.length : Int) := of_decide_eq_true (by first | (with_reducible assumption) | assumption)
                              obtain ⟨ad199, e199, hx199_0⟩ := Kd.at_int HR0.out 1 p199 q199
                              obtain rfl : ad176 = ad199 := (by injection e199)
                              (try simp only [show (1 : Int).toNat = 1 from rfl, Nat.reduceMul, Nat.reduceEqDiff, Go.Addr.add, ↓reduceIte] at hx199_0)
                              have qi199 : (1 < l0.length) = True := eq_true (by omega)
                              (try rw [show ((1 : Int)).toNat = 1 from rfl] at hx199_0)
                              have hn199_0 : ad176.block ≠ gb195 := Nat.ne_of_lt (Nat.lt_of_lt_of_le (by have := World.block_lt_of_cell? _ _ hx199_0; first | rwa [add_block] at this | exact this) GW195.out)
                              have hn199_1 : ad176.block ≠ gb195 := Nat.ne_of_lt (Nat.lt_of_lt_of_le (by have := World.block_lt_of_cell? _ _ hx199_0; first | rwa [add_block] at this | exact this) GW195.out)
                              replace hx199_0 := (HB.out.cell (World.block_lt_of_cell? w _ hx199_0)).trans hx199_0
                              replace hx199_0 := (cell_far (p := ⟨gb195, 2, none⟩) (by first | (rw [add_block]; exact hn199_0) | (show (Addr.add _ _).block ≠ _; rw [add_block]; exact hn199_0) | exact hn199_0) (.int .i64 (wrap64 ((wrap64 (Go.bits .and .u8 (rd l0 1) 7)) + (wrap64 ((wrap64 (Go.bits .and .u8 a1 1)) * 8)))))).trans hx199_0
                              replace hx199_0 := (cell_far (p := ⟨gb195, 3, none⟩) (by first | (rw [add_block]; exact hn199_1) | (show (Addr.add _ _).block ≠ _; rw [add_block]; exact hn199_1) | exact hn199_1) (.int .i64 (wrap64 ((wrap64 (Go.bits .and .u8 ((rd l0 1) / 8) 7)) + (wrap64 ((wrap64 (Go.bits .and .u8 (a1 / 2) 1)) * 8)))))).trans hx199_0
                              clear hn199_0
                              clear hn199_1
                              replace p199 := eq_true p199
                              replace q199 := eq_true q199
                              have p200 : 0 ≤ (1 : Int) := (by omega)
                              have q200 : 1 < (l0.length : Int) := of_decide_eq_true (by first | (with_reducible assumption) | assumption)
                              obtain ⟨ad200, e200, hx200_0⟩ := Kd.at_int HR0.out 1 p200 q200
                              obtain rfl : ad176 = ad200 := (by injection e200)
                              (try simp only [show (1 : Int).toNat = 1 from rfl, Nat.reduceMul, Nat.reduceEqDiff, Go.Addr.add, ↓reduceIte] at hx200_0)
                              have qi200 : (1 < l0.length) = True := eq_true (by omega)
                              (try rw [show ((1 : Int)).toNat = 1 from rfl] at hx200_0)
                              have hn200_0 : ad176.block ≠ gb195 := Nat.ne_of_lt (Nat.lt_of_lt_of_le (by have := World.block_lt_of_cell? _ _ hx200_0; first | rwa [add_block] at this | exact this) GW195.out)
                              have hn200_1 : ad176.block ≠ gb195 := Nat.ne_of_lt (Nat.lt_of_lt_of_le (by have := World.block_lt_of_cell? _ _ hx200_0; first | rwa [add_block] at this | exact this) GW195.out)
                              have hn200_2 : ad176.block ≠ gb195 := Nat.ne_of_lt (Nat.lt_of_lt_of_le (by have := World.block_lt_of_cell? _ _ hx200_0; first | rwa [add_block] at this | exact this) GW195.out)
                              replace hx200_0 := (HB.out.cell (World.block_lt_of_cell? w _ hx200_0)).trans hx200_0
                              replace hx200_0 := (cell_far (p := ⟨gb195, 2, none⟩) (by first | (rw [add_block]; exact hn200_0) | (show (Addr.add _ _).block ≠ _; rw [add_block]; exact hn200_0) | exact hn200_0) (.int .i64 (wrap64 ((wrap64 (Go.bits .and .u8 (rd l0 1) 7)) + (wrap64 ((wrap64 (Go.bits .and .u8 a1 1)) * 8)))))).trans hx200_0
                              replace hx200_0 := (cell_far (p := ⟨gb195, 3, none⟩) (by first | (rw [add_block]; exact hn200_1) | (show (Addr.add _ _).block ≠ _; rw [add_block]; exact hn200_1) | exact hn200_1) (.int .i64 (wrap64 ((wrap64 (Go.bits .and .u8 ((rd l0 1) / 8) 7)) + (wrap64 ((wrap64 (Go.bits .and .u8 (a1 / 2) 1)) * 8)))))).trans hx200_0
                              replace hx200_0 := (cell_far (p := ⟨gb195, 4, none⟩) (by first | (rw [add_block]; exact hn200_2) | (show (Addr.add _ _).block ≠ _; rw [add_block]; exact hn200_2) | exact hn200_2) (.int .i64 ji41)).trans hx200_0
                              clear hn200_0
                              clear hn200_1
                              clear hn200_2
                              replace p200 := eq_true p200
                              replace q200 := eq_true q200
                              go_wp2
                              go_meet
                              case rel => exact ⟨_, (2), (x13_21), (0), (0), (0), (0), (0), (0), (false), (0), (wrap64 ((wrap64 (Go.bits .and .u8 (rd l0 1) 7)) + (wrap64 ((wrap64 (Go.bits .and .u8 a1 1)) * 8)))), (wrap64 ((wrap64 (Go.bits .and .u8 ((rd l0 1) / 8) 7)) + (wrap64 ((wrap64 (Go.bits .and .u8 (a1 / 2) 1)) * 8)))), (ji41), (t193), (by first | rfl | (simp; done) | (simp [*]; done)), (by first | rfl | (simp; done) | (simp [*]; done)), H', ⟨by have := HJ13.out; have := HJ21.out; first | omega | exact Nat.le_refl _⟩, ⟨by (with_reducible repeat (first | refine bN_ ?_ _ | refine bD_ ?_ | refine bA_ ?_ _)); refine blk_far ?_ NB175_195.out _; (with_reducible repeat (first | refine bN_ ?_ _ | refine bD_ ?_ | refine bA_ ?_ _)); refine blk_far ?_ NB175_195.out _; (with_reducible repeat (first | refine bN_ ?_ _ | refine bD_ ?_ | refine bA_ ?_ _)); refine blk_far ?_ NB175_195.out _; (with_reducible repeat (first | refine bN_ ?_ _ | refine bD_ ?_ | refine bA_ ?_ _)); exact BK175.out⟩, ⟨by (with_reducible repeat (first | refine bN_ ?_ _ | refine bD_ ?_ | refine bA_ ?_ _)); refine blk_put (cs := #[.int .u8 t187, .int .i64 t188, .int .i64 (wrap64 ((wrap64 (Go.bits .and .u8 (rd l0 1) 7)) + (wrap64 ((wrap64 (Go.bits .and .u8 a1 1)) * 8)))), .int .i64 (wrap64 ((wrap64 (Go.bits .and .u8 ((rd l0 1) / 8) 7)) + (wrap64 ((wrap64 (Go.bits .and .u8 (a1 / 2) 1)) * 8)))), .int .i64 t191, .int .i64 t192, .bool t193, .int .i64 t194]) ?_ 4 _ rfl; (with_reducible repeat (first | refine bN_ ?_ _ | refine bD_ ?_ | refine bA_ ?_ _)); refine blk_put (cs := #[.int .u8 t187, .int .i64 t188, .int .i64 (wrap64 ((wrap64 (Go.bits .and .u8 (rd l0 1) 7)) + (wrap64 ((wrap64 (Go.bits .and .u8 a1 1)) * 8)))), .int .i64 t190, .int .i64 t191, .int .i64 t192, .bool t193, .int .i64 t194]) ?_ 3 _ rfl; (with_reducible repeat (first | refine bN_ ?_ _ | refine bD_ ?_ | refine bA_ ?_ _)); refine blk_put (cs := #[.int .u8 t187, .int .i64 t188, .int .i64 t189, .int .i64 t190, .int .i64 t191, .int .i64 t192, .bool t193, .int .i64 t194]) ?_ 2 _ rfl; (with_reducible repeat (first | refine bN_ ?_ _ | refine bD_ ?_ | refine bA_ ?_ _)); exact BK195.out⟩, ⟨by repeat (first | (with_reducible first | exact HB.out | apply bX_ | apply bW_ | apply bY_ | refine bS_ ?_ GE175.out | refine bS_ ?_ GE195.out) | exact HB.out)⟩⟩
                          · rw [if_neg c40] at H
                            exact absurd H (by simp)
                      · rw [if_neg c29] at H
                        exact absurd H (by simp)
                  · rw [if_neg c25] at H
                    have c25b0 : ((wrap64 (Go.bits .and .u8 (rd l0 0) 7)) == 4) = false := beq_eq_false_iff_ne.mpr c25
                    have c25b1 : ((wrap64 (Go.bits .and .u8 (rd l0 0) 7)) != 4) = true := bne_iff_ne.mpr c25
                    (first | rw [c25b0] | (simp only [i64_w, i32_w]; rw [c25b0]) | skip)
                    by_cases c50 : (wrap64 (Go.bits .and .u8 (rd l0 0) 7)) = 5
                    · rw [if_pos c50] at H
                      have c50b0 : ((wrap64 (Go.bits .and .u8 (rd l0 0) 7)) == 5) = true := beq_iff_eq.mpr c50
                      have c50b1 : ((wrap64 (Go.bits .and .u8 (rd l0 0) 7)) != 5) = false := bne_eq_false_iff_eq.mpr c50
                      clear c50
                      by_cases c51 : ((rd l0 0) / 64) = 0
                      · rw [if_pos c51] at H
                        have c51b0 : (((rd l0 0) / 64) == 0) = true := beq_iff_eq.mpr c51
                        have c51b1 : (((rd l0 0) / 64) != 0) = false := bne_eq_false_iff_eq.mpr c51
                        clear c51
                        have H' := Aside0.mk H
                        clear H
                        have hnb52 := NB195_175.out
                        have hnc52 := NB175_195.out
                        have hcz53_0 : wc.cell? ⟨gb195, 0, none⟩ = some (.int .u8 t187) := (bC_ BK195.out 0).trans rfl
                        have hcz53_1 : wc.cell? ⟨gb195, 1, none⟩ = some (.int .i64 t188) := (bC_ BK195.out 1).trans rfl
                        have hcz53_2 : wc.cell? ⟨gb195, 2, none⟩ = some (.int .i64 t189) := (bC_ BK195.out 2).trans rfl
                        have hcz53_3 : wc.cell? ⟨gb195, 3, none⟩ = some (.int .i64 t190) := (bC_ BK195.out 3).trans rfl
                        have hcz53_4 : wc.cell? ⟨gb195, 4, none⟩ = some (.int .i64 t191) := (bC_ BK195.out 4).trans rfl
                        have hcz53_5 : wc.cell? ⟨gb195, 5, none⟩ = some (.int .i64 t192) := (bC_ BK195.out 5).trans rfl
                        have hcz53_6 : wc.cell? ⟨gb195, 6, none⟩ = some (.bool t193) := (bC_ BK195.out 6).trans rfl
                        have hcz53_7 : wc.cell? ⟨gb195, 7, none⟩ = some (.int .i64 t194) := (bC_ BK195.out 7).trans rfl
                        have hfz53_0 := bF_ BK195.out 0
                        have hfz53_1 := bF_ BK195.out 1
                        have hfz53_2 := bF_ BK195.out 2
                        have hfz53_3 := bF_ BK195.out 3
                        have hfz53_4 := bF_ BK195.out 4
                        have hfz53_5 := bF_ BK195.out 5
                        have hfz53_6 := bF_ BK195.out 6
                        have hfz53_7 := bF_ BK195.out 7
                        go_wp2
                        go_meet
                        case rel => exact ⟨_, (1), (4), (0), (0), (0), (0), (0), (0), (false), (0), ((-1)), (t190), (t191), (true), (by first | rfl | (simp; done) | (simp [*]; done)), (by first | rfl | (simp; done) | (simp [*]; done)), H', ⟨by have := HJ13.out; have := HJ21.out; first | omega | exact Nat.le_refl _⟩, ⟨by (with_reducible repeat (first | refine bN_ ?_ _ | refine bD_ ?_ | refine bA_ ?_ _)); refine blk_far ?_ NB175_195.out _; (with_reducible repeat (first | refine bN_ ?_ _ | refine bD_ ?_ | refine bA_ ?_ _)); refine blk_far ?_ NB175_195.out _; (with_reducible repeat (first | refine bN_ ?_ _ | refine bD_ ?_ | refine bA_ ?_ _)); exact BK175.out⟩, ⟨by (with_reducible repeat (first | refine bN_ ?_ _ | refine bD_ ?_ | refine bA_ ?_ _)); refine blk_put (cs := #[.int .u8 t187, .int .i64 t188, .int .i64 (-1), .int .i64 t190, .int .i64 t191, .int .i64 t192, .bool t193, .int .i64 t194]) ?_ 6 _ rfl; (with_reducible repeat (first | refine bN_ ?_ _ | refine bD_ ?_ | refine bA_ ?_ _)); refine blk_put (cs := #[.int .u8 t187, .int .i64 t188, .int .i64 t189, .int .i64 t190, .int .i64 t191, .int .i64 t192, .bool t193, .int .i64 t194]) ?_ 2 _ rfl; (with_reducible repeat (first | refine bN_ ?_ _ | refine bD_ ?_ | refine bA_ ?_ _)); exact BK195.out⟩, ⟨by repeat (first | (with_reducible first | exact HB.out | apply bX_ | apply bW_ | apply bY_ | refine bS_ ?_ GE175.out | refine bS_ ?_ GE195.out) | exact HB.out)⟩⟩
                      · rw [if_neg c51] at H
                        have c51b0 : (((rd l0 0) / 64) == 0) = false := beq_eq_false_iff_ne.mpr c51
                        have c51b1 : (((rd l0 0) / 64) != 0) = true := bne_iff_ne.mpr c51
                        have H' := Aside0.mk H
                        clear H
                        go_wp2
                        go_meet
                        case rel => exact ⟨_, (1), (x13_21), (0), (0), (0), (0), (0), (0), (false), (0), (t189), (t190), (t191), (t193), (by first | rfl | (simp; done) | (simp [*]; done)), (by first | rfl | (simp; done) | (simp [*]; done)), H', ⟨by have := HJ13.out; have := HJ21.out; first | omega | exact Nat.le_refl _⟩, ⟨by (with_reducible repeat (first | refine bN_ ?_ _ | refine bD_ ?_ | refine bA_ ?_ _)); exact BK175.out⟩, ⟨by (with_reducible repeat (first | refine bN_ ?_ _ | refine bD_ ?_ | refine bA_ ?_ _)); exact BK195.out⟩, ⟨by repeat (first | (with_reducible first | exact HB.out | apply bX_ | apply bW_ | apply bY_ | refine bS_ ?_ GE175.out | refine bS_ ?_ GE195.out) | exact HB.out)⟩⟩
                    · rw [if_neg c50] at H
                      have c50b0 : ((wrap64 (Go.bits .and .u8 (rd l0 0) 7)) == 5) = false := beq_eq_false_iff_ne.mpr c50
                      have c50b1 : ((wrap64 (Go.bits .and .u8 (rd l0 0) 7)) != 5) = true := bne_iff_ne.mpr c50
                      have H' := Aside0.mk H
                      clear H
                      go_wp2
                      go_meet
                      case rel => exact ⟨_, (1), (x13_21), (0), (0), (0), (0), (0), (0), (false), (0), (t189), (t190), (t191), (t193), (by first | rfl | (simp; done) | (simp [*]; done)), (by first | rfl | (simp; done) | (simp [*]; done)), H', ⟨by have := HJ13.out; have := HJ21.out; first | omega | exact Nat.le_refl _⟩, ⟨by (with_reducible repeat (first | refine bN_ ?_ _ | refine bD_ ?_ | refine bA_ ?_ _)); exact BK175.out⟩, ⟨by (with_reducible repeat (first | refine bN_ ?_ _ | refine bD_ ?_ | refine bA_ ?_ _)); exact BK195.out⟩, ⟨by repeat (first | (with_reducible first | exact HB.out | apply bX_ | apply bW_ | apply bY_ | refine bS_ ?_ GE175.out | refine bS_ ?_ GE195.out) | exact HB.out)⟩⟩
                case rest =>
                  clear HC24
                  (try clear p1); (try clear q1); (try clear hx1); (try clear qi1); (try clear c2); (try clear p2); (try clear q2); (try clear hx2); (try clear qi2); (try clear c3); (try clear c4); (try clear c5); (try clear p6); (try clear p17); (try clear q17); (try clear p19); (try clear q19); (try clear hx19); (try clear qi19); (try clear p20); (try clear q20); (try clear hx20); (try clear qi20); (try clear c25); (try clear c25b0); (try clear c25b1); (try clear c26); (try clear c26b0); (try clear c26b1); (try clear c27); (try clear c29); (try clear c29b0); (try clear c29b1); (try clear c30); (try clear c30b0); (try clear c30b1); (try clear c31); (try clear c31b0); (try clear c31b1); (try clear c32); (try clear c32b0); (try clear c32b1); (try clear c33); (try clear c35); (try clear c37); (try clear c40); (try clear c40b0); (try clear c40b1); (try clear c42); (try clear c42b0); (try clear c42b1); (try clear c43); (try clear c43b0); (try clear c43b1); (try clear c44); (try clear c46); (try clear c48); (try clear c50); (try clear c50b0); (try clear c50b1); (try clear c51); (try clear c51b0); (try clear c51b1); (try clear c52); (try clear hx196_0); (try clear hx197_0); (try clear hx198_0); (try clear hx199_0); (try clear hx200_0); (try clear p177); (try clear p178); (try clear p196); (try clear p197); (try clear p198); (try clear p199); (try clear p2); (try clear p200); (try clear p6); (try clear q1); (try clear q17); (try clear q176); (try clear q177); (try clear q178); (try clear q196); (try clear q197); (try clear q198); (try clear q199); (try clear q200)
                  obtain ⟨kq, x12_23, x13_23, x176000_23, x176001_23, x176002_23, x176003_23, x176004_23, x176005_23, x176006_23, x176007_23, x196002_23, x196003_23, x196004_23, x196006_23, rfl, rfl, HA, HJ23, BK175, BK195, HB⟩ := hcut
                  cases kq with
                  | zero => exact absurd HA.out (by simp [r8_Take.j2])
                  | succ kj23 =>
                    have H := HA.out
                    clear HA
                    simp only [r8_Take.j2] at H
                    by_cases c54 : x13_23 > 0
                    · rw [if_pos c54] at H
                      have c54b0 : decide (0 < x13_23) = true := decide_eq_true c54
                      clear c54
                      by_cases c55 : 0 ≤ x12_23
                      · rw [if_pos c55] at H
                        have c55b0 := eq_true c55
                        have c55b1 : decide (0 ≤ x12_23) = true := decide_eq_true c55
                        clear c55
                        by_cases c56 : x12_23 ≤ (l0.length : Int)
                        · rw [if_pos c56] at H
                          have c56b0 := eq_true c56
                          have c56b1 : decide (x12_23 ≤ (l0.length : Int)) = true := decide_eq_true c56
                          clear c56
                          replace H := Option.bind_eq_some_iff.mp H
                          obtain ⟨⟨t202, t203⟩, A570, H⟩ := H
                          replace H : (if t203 = true then (some ((wrap64 ((wrap64 (Go.bits .and .u8 ((rd l0 0) / 8) 7)) + (wrap64 ((wrap64 (Go.bits .and .u8 (a1 / 4) 1)) * 8)))), t187, t188, x196002_23, x196003_23, x196004_23, t202, x196006_23, t194, wrap64 (x12_23 + x13_23), 0)) else (some (0, 0, 0, 0, 0, 0, 0, false, 0, 0, 80))) = some (r1, r2, r3, r4, r5, r6, r7, r8, r9, r10, r11) := H
                          have A57 := Aside0.mk A570
                          clear A570
                          by_cases c58 : t203 = true
                          · subst c58
                            have H1 : (some ((wrap64 ((wrap64 (Go.bits .and .u8 ((rd l0 0) / 8) 7)) + (wrap64 ((wrap64 (Go.bits .and .u8 (a1 / 4) 1)) * 8)))), t187, t188, x196002_23, x196003_23, x196004_23, t202, x196006_23, t194, wrap64 (x12_23 + x13_23), 0)) = some (r1, r2, r3, r4, r5, r6, r7, r8, r9, r10, r11) := by rw [if_pos rfl] at H; exact H
                            clear H
                            have H := H1
                            clear H1
                            simp only [Option.some.injEq, Prod.mk.injEq] at H
                            obtain ⟨rfl, rfl, rfl, rfl, rfl, rfl, rfl, rfl, rfl, rfl, rfl⟩ := H
                            obtain ⟨i059, hi059, _, hsz59, _⟩ := info_parts info5
                            obtain ⟨A59, hcut59, hA59, hC59⟩ := print_drop_of (P := Tryd.prog) (Value.int .u8) 0 24 5 .i64 Tryd.underlying24 hi059 hsz59 (some ad176) c0 l0 x12_23 (of_decide_eq_true (by first | (with_reducible assumption) | assumption)) (of_decide_eq_true (by first | (with_reducible assumption) | assumption)) HC0.out
                            have HR201 := Aside0.mk (Kd.C_of_reads (h1 := fun _ => rfl) (hA59 _ (Kd.reads_of_C HR0.out)))
                            have HC201 := Aside0.mk hC59
                            clear hA59 hC59 hi059 hsz59
                            try go_wp2_with (first | ((with_reducible refine gate_callee (f := 30) rfl ?_); refine goesL_ (some 130) rfl rfl Tryd.func30 (by kernel_rfl) rfl #[.slice A59 (l0.drop (x12_23 : Int).toNat).length (c0 - x12_23.toNat), .int .i64 x13_23] rfl (by (try simp only [List.map_toArray, List.map_cons, List.map_nil]); first | done | (rw [show (l0.drop (x12_23 : Int).toNat).length = (l0.length - x12_23.toNat) from List.length_drop] <;> rfl) | rfl | (simp only [List.length_drop, List.length_take]; rfl)) ?_; (with_reducible refine (r8_number.calls kj23 _ _ (l0.drop (x12_23 : Int).toNat) x13_23 t202 true _ ?side1 ?side2 A57.out).mono ?_); (case side1 => repeat (first | exact (Kd.C_below HR201.out HB.out) | (with_reducible refine Kd.C_alloc ?_ _) | (with_reducible refine Kd.C_drewN ?_ _) | (with_reducible refine Kd.C_drew ?_))); (case side2 => exact HC201.out); rintro e w' ⟨rfl, ⟨nd, rfl⟩⟩; refine ⟨_, rfl, ?_⟩; (try (rw [drewN_self wc]; generalize hq_ : World.drewN wc _ = wc; have n0_ : Aside0 (wc.heap[gb175]? = some (.cells #[.int .u8 x176000_23, .int .i64 x176001_23, .int .i64 x176002_23, .int .i64 x176003_23, .int .i64 x176004_23, .int .i64 x176005_23, .bool x176006_23, .int .i64 x176007_23] 23 (0, 0))) := ⟨by rw [← hq_]; exact (by (with_reducible repeat (first | refine bN_ ?_ _ | refine bD_ ?_ | refine bA_ ?_ _)); exact BK175.out)⟩; have n1_ : Aside0 (wc.heap[gb195]? = some (.cells #[.int .u8 t187, .int .i64 t188, .int .i64 x196002_23, .int .i64 x196003_23, .int .i64 x196004_23, .int .i64 t192, .bool x196006_23, .int .i64 t194] 23 (0, 0))) := ⟨by rw [← hq_]; exact (by (with_reducible repeat (first | refine bN_ ?_ _ | refine bD_ ?_ | refine bA_ ?_ _)); exact BK195.out)⟩; have n2_ : Aside0 (Below w.heap.size w wc) := ⟨by rw [← hq_]; exact (by repeat (first | (with_reducible first | exact HB.out | apply bX_ | apply bW_ | apply bY_ | refine bS_ ?_ GE175.out | refine bS_ ?_ GE195.out) | exact HB.out))⟩; clear BK175 BK195 HB hq_; have BK175 := n0_; have BK195 := n1_; have HB := n2_; clear n0_ n1_ n2_)); have hnb60 := NB195_175.out; have hnc60 := NB175_195.out; have hcz61_0 : wc.cell? ⟨gb195, 0, none⟩ = some (.int .u8 t187) := (bC_ BK195.out 0).trans rfl; have hcz61_1 : wc.cell? ⟨gb195, 1, none⟩ = some (.int .i64 t188) := (bC_ BK195.out 1).trans rfl; have hcz61_2 : wc.cell? ⟨gb195, 2, none⟩ = some (.int .i64 x196002_23) := (bC_ BK195.out 2).trans rfl; have hcz61_3 : wc.cell? ⟨gb195, 3, none⟩ = some (.int .i64 x196003_23) := (bC_ BK195.out 3).trans rfl; have hcz61_4 : wc.cell? ⟨gb195, 4, none⟩ = some (.int .i64 x196004_23) := (bC_ BK195.out 4).trans rfl; have hcz61_5 : wc.cell? ⟨gb195, 5, none⟩ = some (.int .i64 t192) := (bC_ BK195.out 5).trans rfl; have hcz61_6 : wc.cell? ⟨gb195, 6, none⟩ = some (.bool x196006_23) := (bC_ BK195.out 6).trans rfl; have hcz61_7 : wc.cell? ⟨gb195, 7, none⟩ = some (.int .i64 t194) := (bC_ BK195.out 7).trans rfl; have hfz61_0 := bF_ BK195.out 0; have hfz61_1 := bF_ BK195.out 1; have hfz61_2 := bF_ BK195.out 2; have hfz61_3 := bF_ BK195.out 3; have hfz61_4 := bF_ BK195.out 4; have hfz61_5 := bF_ BK195.out 5; have hfz61_6 := bF_ BK195.out 6; have hfz61_7 := bF_ BK195.out 7))
                            have n0_ : Aside0 ((wc.setCell ⟨gb195, 5, none⟩ (.int .i64 t202)).heap[gb175]? = some (.cells #[.int .u8 x176000_23, .int .i64 x176001_23, .int .i64 x176002_23, .int .i64 x176003_23, .int .i64 x176004_23, .int .i64 x176005_23, .bool x176006_23, .int .i64 x176007_23] 23 (0, 0))) := ⟨by (with_reducible repeat (first | refine bN_ ?_ _ | refine bD_ ?_ | refine bA_ ?_ _)); refine blk_far ?_ NB175_195.out _; (with_reducible repeat (first | refine bN_ ?_ _ | refine bD_ ?_ | refine bA_ ?_ _)); exact BK175.out⟩
                            have n1_ : Aside0 ((wc.setCell ⟨gb195, 5, none⟩ (.int .i64 t202)).heap[gb195]? = some (.cells #[.int .u8 t187, .int .i64 t188, .int .i64 x196002_23, .int .i64 x196003_23, .int .i64 x196004_23, .int .i64 t202, .bool x196006_23, .int .i64 t194] 23 (0, 0))) := ⟨by (with_reducible repeat (first | refine bN_ ?_ _ | refine bD_ ?_ | refine bA_ ?_ _)); refine blk_put (cs := #[.int .u8 t187, .int .i64 t188, .int .i64 x196002_23, .int .i64 x196003_23, .int .i64 x196004_23, .int .i64 t192, .bool x196006_23, .int .i64 t194]) ?_ 5 _ rfl; (with_reducible repeat (first | refine bN_ ?_ _ | refine bD_ ?_ | refine bA_ ?_ _)); exact BK195.out⟩
                            have n2_ : Aside0 (Below w.heap.size w (wc.setCell ⟨gb195, 5, none⟩ (.int .i64 t202))) := ⟨by repeat (first | (with_reducible first | exact HB.out | apply bX_ | apply bW_ | apply bY_ | refine bS_ ?_ GE175.out | refine bS_ ?_ GE195.out) | exact HB.out)⟩
                            (try clear BK175)
                            (try clear BK195)
                            (try clear HB)
                            generalize (wc.setCell ⟨gb195, 5, none⟩ (.int .i64 t202)) = w62 at n0_ n1_ n2_ ⊢
                            have BK175 := n0_
                            have BK195 := n1_
                            have HB := n2_
                            clear n0_ n1_ n2_
                            have n0_ := Aside0.mk (bD_ BK175.out)
                            have n1_ := Aside0.mk (bD_ BK195.out)
                            have n2_ := Aside0.mk (bY_ HB.out)
                            clear BK175
                            clear BK195
                            clear HB
                            have BK175 := n0_
                            have BK195 := n1_
                            have HB := n2_
                            clear n0_ n1_ n2_
                            refine start_ (n := 9) (S := fun w' => w'.cell? ⟨gb195, 0, none⟩ = some (.int .u8 t187) ∧ w'.cell? ⟨gb195, 1, none⟩ = some (.int .i64 t188) ∧ w'.cell? ⟨gb195, 2, none⟩ = some (.int .i64 x196002_23) ∧ w'.cell? ⟨gb195, 3, none⟩ = some (.int .i64 x196003_23) ∧ w'.cell? ⟨gb195, 4, none⟩ = some (.int .i64 x196004_23) ∧ w'.cell? ⟨gb195, 5, none⟩ = some (.int .i64 t202) ∧ w'.cell? ⟨gb195, 6, none⟩ = some (.bool x196006_23) ∧ w'.cell? ⟨gb195, 7, none⟩ = some (.int .i64 t194)) (ds := []) #[false, false, false, false, false, false, false, false, false] (by kernel_rfl) rfl rfl ⟨(bC_ BK195.out 0).trans rfl, (bC_ BK195.out 1).trans rfl, (bC_ BK195.out 2).trans rfl, (bC_ BK195.out 3).trans rfl, (bC_ BK195.out 4).trans rfl, (bC_ BK195.out 5).trans rfl, (bC_ BK195.out 6).trans rfl, (bC_ BK195.out 7).trans rfl⟩ (fun hHeld => ?_); refine with_tabW r8_Take.tab34 r8_Take.bits34 (fun HT_ HW_ => ?_)
                            generalize w62.drew = w63 at BK175 BK195 HB hHeld ⊢
                            refine pure_ (i := 0) (N := some 138) (v := ?_) (a' := ?_) #[true, false, false, false, false, false, false, false, false] rfl rfl (any_of HT_.out (by kernel_rfl)) (fun _ _ _ h => h) (Or.inl ⟨by rfl, ?_⟩) ?_ ?_
                            rotate_left
                            · intro w'
                              go_simp
                              with_reducible rfl
                            rotate_left
                            · simp only [Act.put, List.setIfInBounds_toArray, List.set_cons_zero, List.set_cons_succ, i64_w, i32_w]
                              rfl
                            refine pure_ (i := 2) (N := some 140) (v := ?_) (a' := ?_) #[true, false, true, false, false, false, false, false, false] rfl rfl (any_of HT_.out (by kernel_rfl)) (fun _ _ _ h => h) (Or.inl ⟨by rfl, ?_⟩) ?_ ?_
                            rotate_left
                            · intro w'
                              go_simp
                              with_reducible rfl
                            rotate_left
                            · simp only [Act.put, List.setIfInBounds_toArray, List.set_cons_zero, List.set_cons_succ, i64_w, i32_w]
                              rfl
                            refine pure_ (i := 3) (N := some 141) (v := ?_) (a' := ?_) #[true, false, true, true, false, false, false, false, false] rfl rfl (any_of HT_.out (by kernel_rfl)) (fun _ _ _ h => h) (Or.inl ⟨by rfl, ?_⟩) ?_ ?_
                            rotate_left
                            · intro w'
                              go_simp
                              with_reducible rfl
                            rotate_left
                            · simp only [Act.put, List.setIfInBounds_toArray, List.set_cons_zero, List.set_cons_succ, i64_w, i32_w]
                              rfl
                            refine pure_ (i := 4) (N := some 142) (v := ?_) (a' := ?_) #[true, false, true, true, true, false, false, false, false] rfl rfl (any_of HT_.out (by kernel_rfl)) (fun _ _ _ h => h) (Or.inl ⟨by rfl, ?_⟩) ?_ ?_
                            rotate_left
                            · intro w'
                              go_simp
                              with_reducible rfl
                            rotate_left
                            · simp only [Act.put, List.setIfInBounds_toArray, List.set_cons_zero, List.set_cons_succ, i64_w, i32_w]
                              rfl
                            refine pure_ (i := 5) (N := some 4) (v := ?_) (a' := ?_) #[true, false, true, true, true, true, false, false, false] rfl rfl (any_of HT_.out (by kernel_rfl)) (fun _ _ _ h => h) (Or.inl ⟨by rfl, ?_⟩) ?_ ?_
                            rotate_left
                            · intro w'
                              go_simp
                              with_reducible rfl
                            rotate_left
                            · simp only [Act.put, List.setIfInBounds_toArray, List.set_cons_zero, List.set_cons_succ, i64_w, i32_w]
                              rfl
                            refine take_ (i := 1) (N := some 139) (v := ?_) (a' := ?_) #[true, true, true, true, true, true, false, false, false] rfl rfl (take_ofW HT_.out HW_.out (by kernel_rfl)) (fun _ _ _ h => h) (Or.inl ⟨by rfl, ?_⟩) hHeld ?_ ?_
                            rotate_left
                            · rintro w' ⟨s0, s1, s2, s3, s4, s5, s6, s7⟩
                              go_simp
                              with_reducible rfl
                            rotate_left
                            · simp only [Act.put, List.setIfInBounds_toArray, List.set_cons_zero, List.set_cons_succ, i64_w, i32_w]
                              rfl
                            refine one_ (i := 6) (N := none) #[true, true, true, true, true, true, true, false, false] rfl rfl (one_of HT_.out (by kernel_rfl)) (by decide) (fun K hK => ?_)
                            have hs64 : w63.cell? ⟨gb175, 0, none⟩ = some (.int .u8 x176000_23) := (bC_ BK175.out 0).trans rfl
                            have hfs64 := bF_ BK175.out 0
                            have hns64_1 := NB195_175.out
                            have hms64_1 := NB175_195.out
                            have hs65 : w63.cell? ⟨gb175, 1, none⟩ = some (.int .i64 x176001_23) := (bC_ BK175.out 1).trans rfl
                            have hfs65 := bF_ BK175.out 1
                            have hns65_1 := NB195_175.out
                            have hms65_1 := NB175_195.out
                            have hs66 : w63.cell? ⟨gb175, 2, none⟩ = some (.int .i64 x176002_23) := (bC_ BK175.out 2).trans rfl
                            have hfs66 := bF_ BK175.out 2
                            have hns66_1 := NB195_175.out
                            have hms66_1 := NB175_195.out
                            have hs67 : w63.cell? ⟨gb175, 3, none⟩ = some (.int .i64 x176003_23) := (bC_ BK175.out 3).trans rfl
                            have hfs67 := bF_ BK175.out 3
                            have hns67_1 := NB195_175.out
                            have hms67_1 := NB175_195.out
                            have hs68 : w63.cell? ⟨gb175, 4, none⟩ = some (.int .i64 x176004_23) := (bC_ BK175.out 4).trans rfl
                            have hfs68 := bF_ BK175.out 4
                            have hns68_1 := NB195_175.out
                            have hms68_1 := NB175_195.out
                            have hs69 : w63.cell? ⟨gb175, 5, none⟩ = some (.int .i64 x176005_23) := (bC_ BK175.out 5).trans rfl
                            have hfs69 := bF_ BK175.out 5
                            have hns69_1 := NB195_175.out
                            have hms69_1 := NB175_195.out
                            have hs70 : w63.cell? ⟨gb175, 6, none⟩ = some (.bool x176006_23) := (bC_ BK175.out 6).trans rfl
                            have hfs70 := bF_ BK175.out 6
                            have hns70_1 := NB195_175.out
                            have hms70_1 := NB175_195.out
                            have hs71 : w63.cell? ⟨gb175, 7, none⟩ = some (.int .i64 x176007_23) := (bC_ BK175.out 7).trans rfl
                            have hfs71 := bF_ BK175.out 7
                            have hns71_1 := NB195_175.out
                            have hms71_1 := NB175_195.out
                            refine skip_ (w1 := ?_) (by rfl) rfl ?_ ?_
                            rotate_left
                            · go_simp
                              rfl
                            refine hK.out _ _ ⟨((cell_far (p := ⟨gb175, _, none⟩) NB195_175.out _).trans (((cell_far (p := ⟨gb175, _, none⟩) NB195_175.out _).trans (((cell_far (p := ⟨gb175, _, none⟩) NB195_175.out _).trans (((cell_far (p := ⟨gb175, _, none⟩) NB195_175.out _).trans (((cell_far (p := ⟨gb175, _, none⟩) NB195_175.out _).trans (((cell_far (p := ⟨gb175, _, none⟩) NB195_175.out _).trans (((cell_far (p := ⟨gb175, _, none⟩) NB195_175.out _).trans (((cell_far (p := ⟨gb175, _, none⟩) NB195_175.out _).trans (hHeld.1)))))))))))))))), ((cell_far (p := ⟨gb175, _, none⟩) NB195_175.out _).trans (((cell_far (p := ⟨gb175, _, none⟩) NB195_175.out _).trans (((cell_far (p := ⟨gb175, _, none⟩) NB195_175.out _).trans (((cell_far (p := ⟨gb175, _, none⟩) NB195_175.out _).trans (((cell_far (p := ⟨gb175, _, none⟩) NB195_175.out _).trans (((cell_far (p := ⟨gb175, _, none⟩) NB195_175.out _).trans (((cell_far (p := ⟨gb175, _, none⟩) NB195_175.out _).trans (((cell_far (p := ⟨gb175, _, none⟩) NB195_175.out _).trans (hHeld.2.1)))))))))))))))), ((cell_far (p := ⟨gb175, _, none⟩) NB195_175.out _).trans (((cell_far (p := ⟨gb175, _, none⟩) NB195_175.out _).trans (((cell_far (p := ⟨gb175, _, none⟩) NB195_175.out _).trans (((cell_far (p := ⟨gb175, _, none⟩) NB195_175.out _).trans (((cell_far (p := ⟨gb175, _, none⟩) NB195_175.out _).trans (((cell_far (p := ⟨gb175, _, none⟩) NB195_175.out _).trans (((cell_far (p := ⟨gb175, _, none⟩) NB195_175.out _).trans (((cell_far (p := ⟨gb175, _, none⟩) NB195_175.out _).trans (hHeld.2.2.1)))))))))))))))), ((cell_far (p := ⟨gb175, _, none⟩) NB195_175.out _).trans (((cell_far (p := ⟨gb175, _, none⟩) NB195_175.out _).trans (((cell_far (p := ⟨gb175, _, none⟩) NB195_175.out _).trans (((cell_far (p := ⟨gb175, _, none⟩) NB195_175.out _).trans (((cell_far (p := ⟨gb175, _, none⟩) NB195_175.out _).trans (((cell_far (p := ⟨gb175, _, none⟩) NB195_175.out _).trans (((cell_far (p := ⟨gb175, _, none⟩) NB195_175.out _).trans (((cell_far (p := ⟨gb175, _, none⟩) NB195_175.out _).trans (hHeld.2.2.2.1)))))))))))))))), ((cell_far (p := ⟨gb175, _, none⟩) NB195_175.out _).trans (((cell_far (p := ⟨gb175, _, none⟩) NB195_175.out _).trans (((cell_far (p := ⟨gb175, _, none⟩) NB195_175.out _).trans (((cell_far (p := ⟨gb175, _, none⟩) NB195_175.out _).trans (((cell_far (p := ⟨gb175, _, none⟩) NB195_175.out _).trans (((cell_far (p := ⟨gb175, _, none⟩) NB195_175.out _).trans (((cell_far (p := ⟨gb175, _, none⟩) NB195_175.out _).trans (((cell_far (p := ⟨gb175, _, none⟩) NB195_175.out _).trans (hHeld.2.2.2.2.1)))))))))))))))), ((cell_far (p := ⟨gb175, _, none⟩) NB195_175.out _).trans (((cell_far (p := ⟨gb175, _, none⟩) NB195_175.out _).trans (((cell_far (p := ⟨gb175, _, none⟩) NB195_175.out _).trans (((cell_far (p := ⟨gb175, _, none⟩) NB195_175.out _).trans (((cell_far (p := ⟨gb175, _, none⟩) NB195_175.out _).trans (((cell_far (p := ⟨gb175, _, none⟩) NB195_175.out _).trans (((cell_far (p := ⟨gb175, _, none⟩) NB195_175.out _).trans (((cell_far (p := ⟨gb175, _, none⟩) NB195_175.out _).trans (hHeld.2.2.2.2.2.1)))))))))))))))), ((cell_far (p := ⟨gb175, _, none⟩) NB195_175.out _).trans (((cell_far (p := ⟨gb175, _, none⟩) NB195_175.out _).trans (((cell_far (p := ⟨gb175, _, none⟩) NB195_175.out _).trans (((cell_far (p := ⟨gb175, _, none⟩) NB195_175.out _).trans (((cell_far (p := ⟨gb175, _, none⟩) NB195_175.out _).trans (((cell_far (p := ⟨gb175, _, none⟩) NB195_175.out _).trans (((cell_far (p := ⟨gb175, _, none⟩) NB195_175.out _).trans (((cell_far (p := ⟨gb175, _, none⟩) NB195_175.out _).trans (hHeld.2.2.2.2.2.2.1)))))))))))))))), ((cell_far (p := ⟨gb175, _, none⟩) NB195_175.out _).trans (((cell_far (p := ⟨gb175, _, none⟩) NB195_175.out _).trans (((cell_far (p := ⟨gb175, _, none⟩) NB195_175.out _).trans (((cell_far (p := ⟨gb175, _, none⟩) NB195_175.out _).trans (((cell_far (p := ⟨gb175, _, none⟩) NB195_175.out _).trans (((cell_far (p := ⟨gb175, _, none⟩) NB195_175.out _).trans (((cell_far (p := ⟨gb175, _, none⟩) NB195_175.out _).trans (((cell_far (p := ⟨gb175, _, none⟩) NB195_175.out _).trans (hHeld.2.2.2.2.2.2.2))))))))))))))))⟩ (fun hHeld => ?_)
                            clear hK K
                            refine pure_ (i := 7) (N := some 6) (v := ?_) (a' := ?_) #[true, true, true, true, true, true, true, true, false] rfl rfl (any_of HT_.out (by kernel_rfl)) (fun _ _ _ h => h) (Or.inl ⟨by rfl, ?_⟩) ?_ ?_
                            rotate_left
                            · intro w'
                              go_simp
                              with_reducible rfl
                            rotate_left
                            · simp only [Act.put, List.setIfInBounds_toArray, List.set_cons_zero, List.set_cons_succ, i64_w, i32_w]
                              rfl
                            refine pure_ (i := 8) (N := some 7) (v := ?_) (a' := ?_) #[true, true, true, true, true, true, true, true, true] rfl rfl (any_of HT_.out (by kernel_rfl)) (fun _ _ _ h => h) (Or.inl ⟨by rfl, ?_⟩) ?_ ?_
                            rotate_left
                            · intro w'
                              go_simp
                              with_reducible rfl
                            rotate_left
                            · simp only [Act.put, List.setIfInBounds_toArray, List.set_cons_zero, List.set_cons_succ, i64_w, i32_w]
                              rfl
                            refine done_ (done_of HT_.out (by kernel_rfl)) ?_
                            try go_wp2
                            refine bodyPost_ret (results_list (rs := [.tmp 4, .cell 5 23, .tmp 6, .tmp 7]) rfl (by simp) (.tmp (.cell gb175 23 #[.int .u8 t187, .int .i64 t188, .int .i64 x196002_23, .int .i64 x196003_23, .int .i64 x196004_23, .int .i64 t202, .bool x196006_23, .int .i64 t194] (0, 0) _ rfl (by (with_reducible repeat (first | refine bN_ ?_ _ | refine bD_ ?_ | refine bA_ ?_ _)); refine blk_put (cs := #[.int .u8 t187, .int .i64 t188, .int .i64 x196002_23, .int .i64 x196003_23, .int .i64 x196004_23, .int .i64 t202, .bool x196006_23, .int .i64 x176007_23]) ?_ 7 _ rfl; (with_reducible repeat (first | refine bN_ ?_ _ | refine bD_ ?_ | refine bA_ ?_ _)); refine blk_put (cs := #[.int .u8 t187, .int .i64 t188, .int .i64 x196002_23, .int .i64 x196003_23, .int .i64 x196004_23, .int .i64 t202, .bool x176006_23, .int .i64 x176007_23]) ?_ 6 _ rfl; (with_reducible repeat (first | refine bN_ ?_ _ | refine bD_ ?_ | refine bA_ ?_ _)); refine blk_put (cs := #[.int .u8 t187, .int .i64 t188, .int .i64 x196002_23, .int .i64 x196003_23, .int .i64 x196004_23, .int .i64 x176005_23, .bool x176006_23, .int .i64 x176007_23]) ?_ 5 _ rfl; (with_reducible repeat (first | refine bN_ ?_ _ | refine bD_ ?_ | refine bA_ ?_ _)); refine blk_put (cs := #[.int .u8 t187, .int .i64 t188, .int .i64 x196002_23, .int .i64 x196003_23, .int .i64 x176004_23, .int .i64 x176005_23, .bool x176006_23, .int .i64 x176007_23]) ?_ 4 _ rfl; (with_reducible repeat (first | refine bN_ ?_ _ | refine bD_ ?_ | refine bA_ ?_ _)); refine blk_put (cs := #[.int .u8 t187, .int .i64 t188, .int .i64 x196002_23, .int .i64 x176003_23, .int .i64 x176004_23, .int .i64 x176005_23, .bool x176006_23, .int .i64 x176007_23]) ?_ 3 _ rfl; (with_reducible repeat (first | refine bN_ ?_ _ | refine bD_ ?_ | refine bA_ ?_ _)); refine blk_put (cs := #[.int .u8 t187, .int .i64 t188, .int .i64 x176002_23, .int .i64 x176003_23, .int .i64 x176004_23, .int .i64 x176005_23, .bool x176006_23, .int .i64 x176007_23]) ?_ 2 _ rfl; (with_reducible repeat (first | refine bN_ ?_ _ | refine bD_ ?_ | refine bA_ ?_ _)); refine blk_put (cs := #[.int .u8 t187, .int .i64 x176001_23, .int .i64 x176002_23, .int .i64 x176003_23, .int .i64 x176004_23, .int .i64 x176005_23, .bool x176006_23, .int .i64 x176007_23]) ?_ 1 _ rfl; (with_reducible repeat (first | refine bN_ ?_ _ | refine bD_ ?_ | refine bA_ ?_ _)); refine blk_put (cs := #[.int .u8 x176000_23, .int .i64 x176001_23, .int .i64 x176002_23, .int .i64 x176003_23, .int .i64 x176004_23, .int .i64 x176005_23, .bool x176006_23, .int .i64 x176007_23]) ?_ 0 _ rfl; (with_reducible repeat (first | refine bN_ ?_ _ | refine bD_ ?_ | refine bA_ ?_ _)); exact BK175.out) Tryd.underlying23 rfl (by kernel_rfl) (.tmp (.tmp .nil))))) rfl ?_
                            exact ⟨by first | rfl | (simp [errW_none, errW_some] <;> rfl) | (simp [*, errW_none, errW_some] <;> rfl), by repeat (first | (with_reducible first | exact HB.out | apply bX_ | apply bW_ | apply bY_ | refine bS_ ?_ GE175.out | refine bS_ ?_ GE195.out) | exact HB.out)⟩
                          · replace c58 := Bool.eq_false_iff.mpr c58
                            subst c58
                            have H1 : (some (0, 0, 0, 0, 0, 0, 0, false, 0, 0, 80)) = some (r1, r2, r3, r4, r5, r6, r7, r8, r9, r10, r11) := by rw [if_neg (show ¬ (false = true) by decide)] at H; exact H
                            clear H
                            have H := H1
                            clear H1
                            simp only [Option.some.injEq, Prod.mk.injEq] at H
                            obtain ⟨rfl, rfl, rfl, rfl, rfl, rfl, rfl, rfl, rfl, rfl, rfl⟩ := H
                            obtain ⟨i072, hi072, _, hsz72, _⟩ := info_parts info5
                            obtain ⟨A72, hcut72, hA72, hC72⟩ := print_drop_of (P := Tryd.prog) (Value.int .u8) 0 24 5 .i64 Tryd.underlying24 hi072 hsz72 (some ad176) c0 l0 x12_23 (of_decide_eq_true (by first | (with_reducible assumption) | assumption)) (of_decide_eq_true (by first | (with_reducible assumption) | assumption)) HC0.out
                            have HR201 := Aside0.mk (Kd.C_of_reads (h1 := fun _ => rfl) (hA72 _ (Kd.reads_of_C HR0.out)))
                            have HC201 := Aside0.mk hC72
                            clear hA72 hC72 hi072 hsz72
                            go_wp2_with (first | ((with_reducible refine gate_callee (f := 30) rfl ?_); refine goesL_ (some 130) rfl rfl Tryd.func30 (by kernel_rfl) rfl #[.slice A72 (l0.drop (x12_23 : Int).toNat).length (c0 - x12_23.toNat), .int .i64 x13_23] rfl (by (try simp only [List.map_toArray, List.map_cons, List.map_nil]); first | done | (rw [show (l0.drop (x12_23 : Int).toNat).length = (l0.length - x12_23.toNat) from List.length_drop] <;> rfl) | rfl | (simp only [List.length_drop, List.length_take]; rfl)) ?_; (with_reducible refine (r8_number.calls kj23 _ _ (l0.drop (x12_23 : Int).toNat) x13_23 t202 false _ ?side1 ?side2 A57.out).mono ?_); (case side1 => repeat (first | exact (Kd.C_below HR201.out HB.out) | (with_reducible refine Kd.C_alloc ?_ _) | (with_reducible refine Kd.C_drewN ?_ _) | (with_reducible refine Kd.C_drew ?_))); (case side2 => exact HC201.out); rintro e w' ⟨rfl, ⟨nd, rfl⟩⟩; refine ⟨_, rfl, ?_⟩; (try (rw [drewN_self wc]; generalize hq_ : World.drewN wc _ = wc; have n0_ : Aside0 (wc.heap[gb175]? = some (.cells #[.int .u8 x176000_23, .int .i64 x176001_23, .int .i64 x176002_23, .int .i64 x176003_23, .int .i64 x176004_23, .int .i64 x176005_23, .bool x176006_23, .int .i64 x176007_23] 23 (0, 0))) := ⟨by rw [← hq_]; exact (by (with_reducible repeat (first | refine bN_ ?_ _ | refine bD_ ?_ | refine bA_ ?_ _)); exact BK175.out)⟩; have n1_ : Aside0 (wc.heap[gb195]? = some (.cells #[.int .u8 t187, .int .i64 t188, .int .i64 x196002_23, .int .i64 x196003_23, .int .i64 x196004_23, .int .i64 t192, .bool x196006_23, .int .i64 t194] 23 (0, 0))) := ⟨by rw [← hq_]; exact (by (with_reducible repeat (first | refine bN_ ?_ _ | refine bD_ ?_ | refine bA_ ?_ _)); exact BK195.out)⟩; have n2_ : Aside0 (Below w.heap.size w wc) := ⟨by rw [← hq_]; exact (by repeat (first | (with_reducible first | exact HB.out | apply bX_ | apply bW_ | apply bY_ | refine bS_ ?_ GE175.out | refine bS_ ?_ GE195.out) | exact HB.out))⟩; clear BK175 BK195 HB hq_; have BK175 := n0_; have BK195 := n1_; have HB := n2_; clear n0_ n1_ n2_)); have hnb73 := NB175_195.out; have hnc73 := NB195_175.out; have hcz74_0 : wc.cell? ⟨gb175, 0, none⟩ = some (.int .u8 x176000_23) := (bC_ BK175.out 0).trans rfl; have hcz74_1 : wc.cell? ⟨gb175, 1, none⟩ = some (.int .i64 x176001_23) := (bC_ BK175.out 1).trans rfl; have hcz74_2 : wc.cell? ⟨gb175, 2, none⟩ = some (.int .i64 x176002_23) := (bC_ BK175.out 2).trans rfl; have hcz74_3 : wc.cell? ⟨gb175, 3, none⟩ = some (.int .i64 x176003_23) := (bC_ BK175.out 3).trans rfl; have hcz74_4 : wc.cell? ⟨gb175, 4, none⟩ = some (.int .i64 x176004_23) := (bC_ BK175.out 4).trans rfl; have hcz74_5 : wc.cell? ⟨gb175, 5, none⟩ = some (.int .i64 x176005_23) := (bC_ BK175.out 5).trans rfl; have hcz74_6 : wc.cell? ⟨gb175, 6, none⟩ = some (.bool x176006_23) := (bC_ BK175.out 6).trans rfl; have hcz74_7 : wc.cell? ⟨gb175, 7, none⟩ = some (.int .i64 x176007_23) := (bC_ BK175.out 7).trans rfl; have hfz74_0 := bF_ BK175.out 0; have hfz74_1 := bF_ BK175.out 1; have hfz74_2 := bF_ BK175.out 2; have hfz74_3 := bF_ BK175.out 3; have hfz74_4 := bF_ BK175.out 4; have hfz74_5 := bF_ BK175.out 5; have hfz74_6 := bF_ BK175.out 6; have hfz74_7 := bF_ BK175.out 7))
                            refine bodyPost_ret (results_list (rs := [.tmp 4, .cell 5 23, .tmp 6, .tmp 7]) rfl (by simp) (.tmp (.cell gb175 23 #[.int .u8 0, .int .i64 0, .int .i64 0, .int .i64 0, .int .i64 0, .int .i64 0, .bool false, .int .i64 0] (0, 0) _ rfl (by (with_reducible repeat (first | refine bN_ ?_ _ | refine bD_ ?_ | refine bA_ ?_ _)); refine blk_put (cs := #[.int .u8 0, .int .i64 0, .int .i64 0, .int .i64 0, .int .i64 0, .int .i64 0, .bool false, .int .i64 x176007_23]) ?_ 7 _ rfl; (with_reducible repeat (first | refine bN_ ?_ _ | refine bD_ ?_ | refine bA_ ?_ _)); refine blk_put (cs := #[.int .u8 0, .int .i64 0, .int .i64 0, .int .i64 0, .int .i64 0, .int .i64 0, .bool x176006_23, .int .i64 x176007_23]) ?_ 6 _ rfl; (with_reducible repeat (first | refine bN_ ?_ _ | refine bD_ ?_ | refine bA_ ?_ _)); refine blk_put (cs := #[.int .u8 0, .int .i64 0, .int .i64 0, .int .i64 0, .int .i64 0, .int .i64 x176005_23, .bool x176006_23, .int .i64 x176007_23]) ?_ 5 _ rfl; (with_reducible repeat (first | refine bN_ ?_ _ | refine bD_ ?_ | refine bA_ ?_ _)); refine blk_put (cs := #[.int .u8 0, .int .i64 0, .int .i64 0, .int .i64 0, .int .i64 x176004_23, .int .i64 x176005_23, .bool x176006_23, .int .i64 x176007_23]) ?_ 4 _ rfl; (with_reducible repeat (first | refine bN_ ?_ _ | refine bD_ ?_ | refine bA_ ?_ _)); refine blk_put (cs := #[.int .u8 0, .int .i64 0, .int .i64 0, .int .i64 x176003_23, .int .i64 x176004_23, .int .i64 x176005_23, .bool x176006_23, .int .i64 x176007_23]) ?_ 3 _ rfl; (with_reducible repeat (first | refine bN_ ?_ _ | refine bD_ ?_ | refine bA_ ?_ _)); refine blk_put (cs := #[.int .u8 0, .int .i64 0, .int .i64 x176002_23, .int .i64 x176003_23, .int .i64 x176004_23, .int .i64 x176005_23, .bool x176006_23, .int .i64 x176007_23]) ?_ 2 _ rfl; (with_reducible repeat (first | refine bN_ ?_ _ | refine bD_ ?_ | refine bA_ ?_ _)); refine blk_put (cs := #[.int .u8 0, .int .i64 x176001_23, .int .i64 x176002_23, .int .i64 x176003_23, .int .i64 x176004_23, .int .i64 x176005_23, .bool x176006_23, .int .i64 x176007_23]) ?_ 1 _ rfl; (with_reducible repeat (first | refine bN_ ?_ _ | refine bD_ ?_ | refine bA_ ?_ _)); refine blk_put (cs := #[.int .u8 x176000_23, .int .i64 x176001_23, .int .i64 x176002_23, .int .i64 x176003_23, .int .i64 x176004_23, .int .i64 x176005_23, .bool x176006_23, .int .i64 x176007_23]) ?_ 0 _ rfl; (with_reducible repeat (first | refine bN_ ?_ _ | refine bD_ ?_ | refine bA_ ?_ _)); exact BK175.out) Tryd.underlying23 rfl (by kernel_rfl) (.tmp (.tmp .nil))))) rfl ?_
                            exact ⟨by first | rfl | (simp [errW_none, errW_some] <;> rfl) | (simp [*, errW_none, errW_some] <;> rfl), by repeat (first | (with_reducible first | exact HB.out | apply bX_ | apply bW_ | apply bY_ | refine bS_ ?_ GE175.out | refine bS_ ?_ GE195.out) | exact HB.out)⟩
                        · rw [if_neg c56] at H
                          exact absurd H (by simp)
                      · rw [if_neg c55] at H
                        exact absurd H (by simp)
                    · rw [if_neg c54] at H
                      have c54b0 : decide (0 < x13_23) = false := decide_eq_false c54
                      clear c54
                      simp only [Option.some.injEq, Prod.mk.injEq] at H
                      obtain ⟨rfl, rfl, rfl, rfl, rfl, rfl, rfl, rfl, rfl, rfl, rfl⟩ := H
                      try go_wp2
                      have n0_ := Aside0.mk (bD_ BK175.out)
                      have n1_ := Aside0.mk (bD_ BK195.out)
                      have n2_ := Aside0.mk (bY_ HB.out)
                      clear BK175
                      clear BK195
                      clear HB
                      have BK175 := n0_
                      have BK195 := n1_
                      have HB := n2_
                      clear n0_ n1_ n2_
                      refine start_ (n := 9) (S := fun w' => w'.cell? ⟨gb195, 0, none⟩ = some (.int .u8 t187) ∧ w'.cell? ⟨gb195, 1, none⟩ = some (.int .i64 t188) ∧ w'.cell? ⟨gb195, 2, none⟩ = some (.int .i64 x196002_23) ∧ w'.cell? ⟨gb195, 3, none⟩ = some (.int .i64 x196003_23) ∧ w'.cell? ⟨gb195, 4, none⟩ = some (.int .i64 x196004_23) ∧ w'.cell? ⟨gb195, 5, none⟩ = some (.int .i64 t192) ∧ w'.cell? ⟨gb195, 6, none⟩ = some (.bool x196006_23) ∧ w'.cell? ⟨gb195, 7, none⟩ = some (.int .i64 t194)) (ds := []) #[false, false, false, false, false, false, false, false, false] (by kernel_rfl) rfl rfl ⟨(bC_ BK195.out 0).trans rfl, (bC_ BK195.out 1).trans rfl, (bC_ BK195.out 2).trans rfl, (bC_ BK195.out 3).trans rfl, (bC_ BK195.out 4).trans rfl, (bC_ BK195.out 5).trans rfl, (bC_ BK195.out 6).trans rfl, (bC_ BK195.out 7).trans rfl⟩ (fun hHeld => ?_); refine with_tabW r8_Take.tab34 r8_Take.bits34 (fun HT_ HW_ => ?_)
                      generalize wc.drew = w75 at BK175 BK195 HB hHeld ⊢
                      refine pure_ (i := 0) (N := some 138) (v := ?_) (a' := ?_) #[true, false, false, false, false, false, false, false, false] rfl rfl (any_of HT_.out (by kernel_rfl)) (fun _ _ _ h => h) (Or.inl ⟨by rfl, ?_⟩) ?_ ?_
                      rotate_left
                      · intro w'
                        go_simp
                        with_reducible rfl
                      rotate_left
                      · simp only [Act.put, List.setIfInBounds_toArray, List.set_cons_zero, List.set_cons_succ, i64_w, i32_w]
                        rfl
                      refine pure_ (i := 2) (N := some 140) (v := ?_) (a' := ?_) #[true, false, true, false, false, false, false, false, false] rfl rfl (any_of HT_.out (by kernel_rfl)) (fun _ _ _ h => h) (Or.inl ⟨by rfl, ?_⟩) ?_ ?_
                      rotate_left
                      · intro w'
                        go_simp
                        with_reducible rfl
                      rotate_left
                      · simp only [Act.put, List.setIfInBounds_toArray, List.set_cons_zero, List.set_cons_succ, i64_w, i32_w]
                        rfl
                      refine pure_ (i := 3) (N := some 141) (v := ?_) (a' := ?_) #[true, false, true, true, false, false, false, false, false] rfl rfl (any_of HT_.out (by kernel_rfl)) (fun _ _ _ h => h) (Or.inl ⟨by rfl, ?_⟩) ?_ ?_
                      rotate_left
                      · intro w'
                        go_simp
                        with_reducible rfl
                      rotate_left
                      · simp only [Act.put, List.setIfInBounds_toArray, List.set_cons_zero, List.set_cons_succ, i64_w, i32_w]
                        rfl
                      refine pure_ (i := 4) (N := some 142) (v := ?_) (a' := ?_) #[true, false, true, true, true, false, false, false, false] rfl rfl (any_of HT_.out (by kernel_rfl)) (fun _ _ _ h => h) (Or.inl ⟨by rfl, ?_⟩) ?_ ?_
                      rotate_left
                      · intro w'
                        go_simp
                        with_reducible rfl
                      rotate_left
                      · simp only [Act.put, List.setIfInBounds_toArray, List.set_cons_zero, List.set_cons_succ, i64_w, i32_w]
                        rfl
                      refine pure_ (i := 5) (N := some 4) (v := ?_) (a' := ?_) #[true, false, true, true, true, true, false, false, false] rfl rfl (any_of HT_.out (by kernel_rfl)) (fun _ _ _ h => h) (Or.inl ⟨by rfl, ?_⟩) ?_ ?_
                      rotate_left
                      · intro w'
                        go_simp
                        with_reducible rfl
                      rotate_left
                      · simp only [Act.put, List.setIfInBounds_toArray, List.set_cons_zero, List.set_cons_succ, i64_w, i32_w]
                        rfl
                      refine take_ (i := 1) (N := some 139) (v := ?_) (a' := ?_) #[true, true, true, true, true, true, false, false, false] rfl rfl (take_ofW HT_.out HW_.out (by kernel_rfl)) (fun _ _ _ h => h) (Or.inl ⟨by rfl, ?_⟩) hHeld ?_ ?_
                      rotate_left
                      · rintro w' ⟨s0, s1, s2, s3, s4, s5, s6, s7⟩
                        go_simp
                        with_reducible rfl
                      rotate_left
                      · simp only [Act.put, List.setIfInBounds_toArray, List.set_cons_zero, List.set_cons_succ, i64_w, i32_w]
                        rfl
                      refine one_ (i := 6) (N := none) #[true, true, true, true, true, true, true, false, false] rfl rfl (one_of HT_.out (by kernel_rfl)) (by decide) (fun K hK => ?_)
                      have hs76 : w75.cell? ⟨gb175, 0, none⟩ = some (.int .u8 x176000_23) := (bC_ BK175.out 0).trans rfl
                      have hfs76 := bF_ BK175.out 0
                      have hns76_1 := NB195_175.out
                      have hms76_1 := NB175_195.out
                      have hs77 : w75.cell? ⟨gb175, 1, none⟩ = some (.int .i64 x176001_23) := (bC_ BK175.out 1).trans rfl
                      have hfs77 := bF_ BK175.out 1
                      have hns77_1 := NB195_175.out
                      have hms77_1 := NB175_195.out
                      have hs78 : w75.cell? ⟨gb175, 2, none⟩ = some (.int .i64 x176002_23) := (bC_ BK175.out 2).trans rfl
                      have hfs78 := bF_ BK175.out 2
                      have hns78_1 := NB195_175.out
                      have hms78_1 := NB175_195.out
                      have hs79 : w75.cell? ⟨gb175, 3, none⟩ = some (.int .i64 x176003_23) := (bC_ BK175.out 3).trans rfl
                      have hfs79 := bF_ BK175.out 3
                      have hns79_1 := NB195_175.out
                      have hms79_1 := NB175_195.out
                      have hs80 : w75.cell? ⟨gb175, 4, none⟩ = some (.int .i64 x176004_23) := (bC_ BK175.out 4).trans rfl
                      have hfs80 := bF_ BK175.out 4
                      have hns80_1 := NB195_175.out
                      have hms80_1 := NB175_195.out
                      have hs81 : w75.cell? ⟨gb175, 5, none⟩ = some (.int .i64 x176005_23) := (bC_ BK175.out 5).trans rfl
                      have hfs81 := bF_ BK175.out 5
                      have hns81_1 := NB195_175.out
                      have hms81_1 := NB175_195.out
                      have hs82 : w75.cell? ⟨gb175, 6, none⟩ = some (.bool x176006_23) := (bC_ BK175.out 6).trans rfl
                      have hfs82 := bF_ BK175.out 6
                      have hns82_1 := NB195_175.out
                      have hms82_1 := NB175_195.out
                      have hs83 : w75.cell? ⟨gb175, 7, none⟩ = some (.int .i64 x176007_23) := (bC_ BK175.out 7).trans rfl
                      have hfs83 := bF_ BK175.out 7
                      have hns83_1 := NB195_175.out
                      have hms83_1 := NB175_195.out
                      refine skip_ (w1 := ?_) (by rfl) rfl ?_ ?_
                      rotate_left
                      · go_simp
                        rfl
                      refine hK.out _ _ ⟨((cell_far (p := ⟨gb175, _, none⟩) NB195_175.out _).trans (((cell_far (p := ⟨gb175, _, none⟩) NB195_175.out _).trans (((cell_far (p := ⟨gb175, _, none⟩) NB195_175.out _).trans (((cell_far (p := ⟨gb175, _, none⟩) NB195_175.out _).trans (((cell_far (p := ⟨gb175, _, none⟩) NB195_175.out _).trans (((cell_far (p := ⟨gb175, _, none⟩) NB195_175.out _).trans (((cell_far (p := ⟨gb175, _, none⟩) NB195_175.out _).trans (((cell_far (p := ⟨gb175, _, none⟩) NB195_175.out _).trans (hHeld.1)))))))))))))))), ((cell_far (p := ⟨gb175, _, none⟩) NB195_175.out _).trans (((cell_far (p := ⟨gb175, _, none⟩) NB195_175.out _).trans (((cell_far (p := ⟨gb175, _, none⟩) NB195_175.out _).trans (((cell_far (p := ⟨gb175, _, none⟩) NB195_175.out _).trans (((cell_far (p := ⟨gb175, _, none⟩) NB195_175.out _).trans (((cell_far (p := ⟨gb175, _, none⟩) NB195_175.out _).trans (((cell_far (p := ⟨gb175, _, none⟩) NB195_175.out _).trans (((cell_far (p := ⟨gb175, _, none⟩) NB195_175.out _).trans (hHeld.2.1)))))))))))))))), ((cell_far (p := ⟨gb175, _, none⟩) NB195_175.out _).trans (((cell_far (p := ⟨gb175, _, none⟩) NB195_175.out _).trans (((cell_far (p := ⟨gb175, _, none⟩) NB195_175.out _).trans (((cell_far (p := ⟨gb175, _, none⟩) NB195_175.out _).trans (((cell_far (p := ⟨gb175, _, none⟩) NB195_175.out _).trans (((cell_far (p := ⟨gb175, _, none⟩) NB195_175.out _).trans (((cell_far (p := ⟨gb175, _, none⟩) NB195_175.out _).trans (((cell_far (p := ⟨gb175, _, none⟩) NB195_175.out _).trans (hHeld.2.2.1)))))))))))))))), ((cell_far (p := ⟨gb175, _, none⟩) NB195_175.out _).trans (((cell_far (p := ⟨gb175, _, none⟩) NB195_175.out _).trans (((cell_far (p := ⟨gb175, _, none⟩) NB195_175.out _).trans (((cell_far (p := ⟨gb175, _, none⟩) NB195_175.out _).trans (((cell_far (p := ⟨gb175, _, none⟩) NB195_175.out _).trans (((cell_far (p := ⟨gb175, _, none⟩) NB195_175.out _).trans (((cell_far (p := ⟨gb175, _, none⟩) NB195_175.out _).trans (((cell_far (p := ⟨gb175, _, none⟩) NB195_175.out _).trans (hHeld.2.2.2.1)))))))))))))))), ((cell_far (p := ⟨gb175, _, none⟩) NB195_175.out _).trans (((cell_far (p := ⟨gb175, _, none⟩) NB195_175.out _).trans (((cell_far (p := ⟨gb175, _, none⟩) NB195_175.out _).trans (((cell_far (p := ⟨gb175, _, none⟩) NB195_175.out _).trans (((cell_far (p := ⟨gb175, _, none⟩) NB195_175.out _).trans (((cell_far (p := ⟨gb175, _, none⟩) NB195_175.out _).trans (((cell_far (p := ⟨gb175, _, none⟩) NB195_175.out _).trans (((cell_far (p := ⟨gb175, _, none⟩) NB195_175.out _).trans (hHeld.2.2.2.2.1)))))))))))))))), ((cell_far (p := ⟨gb175, _, none⟩) NB195_175.out _).trans (((cell_far (p := ⟨gb175, _, none⟩) NB195_175.out _).trans (((cell_far (p := ⟨gb175, _, none⟩) NB195_175.out _).trans (((cell_far (p := ⟨gb175, _, none⟩) NB195_175.out _).trans (((cell_far (p := ⟨gb175, _, none⟩) NB195_175.out _).trans (((cell_far (p := ⟨gb175, _, none⟩) NB195_175.out _).trans (((cell_far (p := ⟨gb175, _, none⟩) NB195_175.out _).trans (((cell_far (p := ⟨gb175, _, none⟩) NB195_175.out _).trans (hHeld.2.2.2.2.2.1)))))))))))))))), ((cell_far (p := ⟨gb175, _, none⟩) NB195_175.out _).trans (((cell_far (p := ⟨gb175, _, none⟩) NB195_175.out _).trans (((cell_far (p := ⟨gb175, _, none⟩) NB195_175.out _).trans (((cell_far (p := ⟨gb175, _, none⟩) NB195_175.out _).trans (((cell_far (p := ⟨gb175, _, none⟩) NB195_175.out _).trans (((cell_far (p := ⟨gb175, _, none⟩) NB195_175.out _).trans (((cell_far (p := ⟨gb175, _, none⟩) NB195_175.out _).trans (((cell_far (p := ⟨gb175, _, none⟩) NB195_175.out _).trans (hHeld.2.2.2.2.2.2.1)))))))))))))))), ((cell_far (p := ⟨gb175, _, none⟩) NB195_175.out _).trans (((cell_far (p := ⟨gb175, _, none⟩) NB195_175.out _).trans (((cell_far (p := ⟨gb175, _, none⟩) NB195_175.out _).trans (((cell_far (p := ⟨gb175, _, none⟩) NB195_175.out _).trans (((cell_far (p := ⟨gb175, _, none⟩) NB195_175.out _).trans (((cell_far (p := ⟨gb175, _, none⟩) NB195_175.out _).trans (((cell_far (p := ⟨gb175, _, none⟩) NB195_175.out _).trans (((cell_far (p := ⟨gb175, _, none⟩) NB195_175.out _).trans (hHeld.2.2.2.2.2.2.2))))))))))))))))⟩ (fun hHeld => ?_)
                      clear hK K
                      refine pure_ (i := 7) (N := some 6) (v := ?_) (a' := ?_) #[true, true, true, true, true, true, true, true, false] rfl rfl (any_of HT_.out (by kernel_rfl)) (fun _ _ _ h => h) (Or.inl ⟨by rfl, ?_⟩) ?_ ?_
                      rotate_left
                      · intro w'
                        go_simp
                        with_reducible rfl
                      rotate_left
                      · simp only [Act.put, List.setIfInBounds_toArray, List.set_cons_zero, List.set_cons_succ, i64_w, i32_w]
                        rfl
                      refine pure_ (i := 8) (N := some 7) (v := ?_) (a' := ?_) #[true, true, true, true, true, true, true, true, true] rfl rfl (any_of HT_.out (by kernel_rfl)) (fun _ _ _ h => h) (Or.inl ⟨by rfl, ?_⟩) ?_ ?_
                      rotate_left
                      · intro w'
                        go_simp
                        with_reducible rfl
                      rotate_left
                      · simp only [Act.put, List.setIfInBounds_toArray, List.set_cons_zero, List.set_cons_succ, i64_w, i32_w]
                        rfl
                      refine done_ (done_of HT_.out (by kernel_rfl)) ?_
                      try go_wp2
                      refine bodyPost_ret (results_list (rs := [.tmp 4, .cell 5 23, .tmp 6, .tmp 7]) rfl (by simp) (.tmp (.cell gb175 23 #[.int .u8 t187, .int .i64 t188, .int .i64 x196002_23, .int .i64 x196003_23, .int .i64 x196004_23, .int .i64 t192, .bool x196006_23, .int .i64 t194] (0, 0) _ rfl (by (with_reducible repeat (first | refine bN_ ?_ _ | refine bD_ ?_ | refine bA_ ?_ _)); refine blk_put (cs := #[.int .u8 t187, .int .i64 t188, .int .i64 x196002_23, .int .i64 x196003_23, .int .i64 x196004_23, .int .i64 t192, .bool x196006_23, .int .i64 x176007_23]) ?_ 7 _ rfl; (with_reducible repeat (first | refine bN_ ?_ _ | refine bD_ ?_ | refine bA_ ?_ _)); refine blk_put (cs := #[.int .u8 t187, .int .i64 t188, .int .i64 x196002_23, .int .i64 x196003_23, .int .i64 x196004_23, .int .i64 t192, .bool x176006_23, .int .i64 x176007_23]) ?_ 6 _ rfl; (with_reducible repeat (first | refine bN_ ?_ _ | refine bD_ ?_ | refine bA_ ?_ _)); refine blk_put (cs := #[.int .u8 t187, .int .i64 t188, .int .i64 x196002_23, .int .i64 x196003_23, .int .i64 x196004_23, .int .i64 x176005_23, .bool x176006_23, .int .i64 x176007_23]) ?_ 5 _ rfl; (with_reducible repeat (first | refine bN_ ?_ _ | refine bD_ ?_ | refine bA_ ?_ _)); refine blk_put (cs := #[.int .u8 t187, .int .i64 t188, .int .i64 x196002_23, .int .i64 x196003_23, .int .i64 x176004_23, .int .i64 x176005_23, .bool x176006_23, .int .i64 x176007_23]) ?_ 4 _ rfl; (with_reducible repeat (first | refine bN_ ?_ _ | refine bD_ ?_ | refine bA_ ?_ _)); refine blk_put (cs := #[.int .u8 t187, .int .i64 t188, .int .i64 x196002_23, .int .i64 x176003_23, .int .i64 x176004_23, .int .i64 x176005_23, .bool x176006_23, .int .i64 x176007_23]) ?_ 3 _ rfl; (with_reducible repeat (first | refine bN_ ?_ _ | refine bD_ ?_ | refine bA_ ?_ _)); refine blk_put (cs := #[.int .u8 t187, .int .i64 t188, .int .i64 x176002_23, .int .i64 x176003_23, .int .i64 x176004_23, .int .i64 x176005_23, .bool x176006_23, .int .i64 x176007_23]) ?_ 2 _ rfl; (with_reducible repeat (first | refine bN_ ?_ _ | refine bD_ ?_ | refine bA_ ?_ _)); refine blk_put (cs := #[.int .u8 t187, .int .i64 x176001_23, .int .i64 x176002_23, .int .i64 x176003_23, .int .i64 x176004_23, .int .i64 x176005_23, .bool x176006_23, .int .i64 x176007_23]) ?_ 1 _ rfl; (with_reducible repeat (first | refine bN_ ?_ _ | refine bD_ ?_ | refine bA_ ?_ _)); refine blk_put (cs := #[.int .u8 x176000_23, .int .i64 x176001_23, .int .i64 x176002_23, .int .i64 x176003_23, .int .i64 x176004_23, .int .i64 x176005_23, .bool x176006_23, .int .i64 x176007_23]) ?_ 0 _ rfl; (with_reducible repeat (first | refine bN_ ?_ _ | refine bD_ ?_ | refine bA_ ?_ _)); exact BK175.out) Tryd.underlying23 rfl (by kernel_rfl) (.tmp (.tmp .nil))))) rfl ?_
                      exact ⟨by first | rfl | (simp [errW_none, errW_some] <;> rfl) | (simp [*, errW_none, errW_some] <;> rfl), by repeat (first | (with_reducible first | exact HB.out | apply bX_ | apply bW_ | apply bY_ | refine bS_ ?_ GE175.out | refine bS_ ?_ GE195.out) | exact HB.out)⟩
    · rw [if_neg c6] at H
      exact absurd H (by simp)
end Go.Proofs.YtppeidopijnnlaaDoor.C
