/- Words and walks that were printed. -/
import Derived.Test.YtppeidopijnnlaaDoorTl10
import Derived.Test.YtppeidopijnnlaaDoorTl11
import Derived.Test.YtppeidopijnnlaaDoorTl12
import Derived.Test.YtppeidopijnnlaaDoorTl13
import Derived.Test.YtppeidopijnnlaaDoorTl15
import Derived.Test.YtppeidopijnnlaaDoorTl16
namespace Go.Proofs.YtppeidopijnnlaaDoor.C
open Go.RowKit Go.Proofs.YtppeidopijnnlaaDoorW.PrintWords Go.Proofs.YtppeidopijnnlaaDoorW.PrintLast Go.Proofs.YtppeidopijnnlaaDoorW.PrintMore
attribute [local go_sem] max2_int min2_int max_two min_two max_three min_three max_four min_four   -- for this text's walks alone
open Go.Proofs.YtppeidopijnnlaaDoor.B
set_option linter.unusedVariables false
set_option linter.unusedSimpArgs false
attribute [local go_sem high] eqA23
noncomputable def lTl.j0 : Nat → Int → Int → Bool → Int → Int → Int → Int → Int → Int → Bool → Int → Option (Bool)
  | 0, _, _, _, _, _, _, _, _, _, _, _ => none
  | k + 1, x0, x4, x92, x252000, x252001, x252002, x252003, x252004, x252005, x252006, x252007 => if x92 = true then (some false) else ((operand_Right.f k x252000 x252001 x252002 x252003 x252004 x252005 x252006 x252007).bind fun t288 => ((r8_Right.f k x252000 x252001 x252002 x252003 x252004 x252005 x252006 x252007).bind fun t289 => (if (t288 == t289) = true then ((operand_Uses.f x252000 x252001 x252002 x252003 x252004 x252005 x252006 x252007).bind fun t290 => ((r8_Uses.f x252000 x252001 x252002 x252003 x252004 x252005 x252006 x252007).bind fun t293 => ((l8_ints.f k t290 t293).bind fun t296 => (if t296 = true then ((operand_Reg.f x0).bind fun bt297 => ((r8_Reg.f x0).bind fun bt305 => (if (bt297.1 == bt305.1 && (bt297.2.1 == bt305.2.1 && (bt297.2.2.1 == bt305.2.2.1 && (bt297.2.2.2.1 == bt305.2.2.2.1 && (bt297.2.2.2.2.1 == bt305.2.2.2.2.1 && (bt297.2.2.2.2.2.1 == bt305.2.2.2.2.2.1 && (bt297.2.2.2.2.2.2.1 == bt305.2.2.2.2.2.2.1 && (bt297.2.2.2.2.2.2.2 == bt305.2.2.2.2.2.2.2)))))))) = true then ((operand_Mem.f x0 x4).bind fun bt313 => ((r8_Mem.f x0 x4).bind fun bt321 => (if (bt313.1 == bt321.1 && (bt313.2.1 == bt321.2.1 && (bt313.2.2.1 == bt321.2.2.1 && (bt313.2.2.2.1 == bt321.2.2.2.1 && (bt313.2.2.2.2.1 == bt321.2.2.2.2.1 && (bt313.2.2.2.2.2.1 == bt321.2.2.2.2.2.1 && (bt313.2.2.2.2.2.2.1 == bt321.2.2.2.2.2.2.1 && (bt313.2.2.2.2.2.2.2 == bt321.2.2.2.2.2.2.2)))))))) = true then ((l8_wakes.f).bind fun t329 => (some t329)) else (some false)))) else (some false)))) else (some false))))) else (some false))))
noncomputable def lTl.f (k : Nat) (a0 : Int) (a1_0 : Int) (a1_1 : Int) (a1_2 : Int) (a1_3 : Int) (a1_4 : Int) (a1_5 : Int) (a1_6 : Bool) (a1_7 : Int) (l2 : List Int) (a3 : Int) (a4 : Int) : Option (Bool) := if (l2.length : Int) > 40 then ((l8_wakes.f).bind fun t252 => (some t252)) else ((operand_Take.f l2 a3).bind fun bt253 => ((r8_Take.f k l2 a3).bind fun bt265 => ((operand_Put.f a0 a1_0 a1_1 a1_2 a1_3 a1_4 a1_5 a1_6 a1_7).bind fun bt277 => ((r8_Put.f k a0 a1_0 a1_1 a1_2 a1_3 a1_4 a1_5 a1_6 a1_7).bind fun bt282 => (if bt253.1 = bt265.1 then (if (!(bt253.2.1 == bt265.2.1) || (!(bt253.2.2.1 == bt265.2.2.1) || (!(bt253.2.2.2.1 == bt265.2.2.2.1) || (!(bt253.2.2.2.2.1 == bt265.2.2.2.2.1) || (!(bt253.2.2.2.2.2.1 == bt265.2.2.2.2.2.1) || (!(bt253.2.2.2.2.2.2.1 == bt265.2.2.2.2.2.2.1) || (!(bt253.2.2.2.2.2.2.2.1 == bt265.2.2.2.2.2.2.2.1) || (!(bt253.2.2.2.2.2.2.2.2.1 == bt265.2.2.2.2.2.2.2.2.1))))))))) = true then (lTl.j0 k a0 a4 true a1_0 a1_1 a1_2 a1_3 a1_4 a1_5 a1_6 a1_7) else (if bt253.2.2.2.2.2.2.2.2.2.1 = bt265.2.2.2.2.2.2.2.2.2.1 then (if bt253.2.2.2.2.2.2.2.2.2.2 = bt265.2.2.2.2.2.2.2.2.2.2 then ((l8_same.f bt277.1 bt282.1).bind fun t287 => (if t287 = true then (if bt277.2.1 = bt282.2.1 then (lTl.j0 k a0 a4 (bt277.2.2 != bt282.2.2) a1_0 a1_1 a1_2 a1_3 a1_4 a1_5 a1_6 a1_7) else (lTl.j0 k a0 a4 true a1_0 a1_1 a1_2 a1_3 a1_4 a1_5 a1_6 a1_7)) else (lTl.j0 k a0 a4 true a1_0 a1_1 a1_2 a1_3 a1_4 a1_5 a1_6 a1_7))) else (lTl.j0 k a0 a4 true a1_0 a1_1 a1_2 a1_3 a1_4 a1_5 a1_6 a1_7)) else (lTl.j0 k a0 a4 true a1_0 a1_1 a1_2 a1_3 a1_4 a1_5 a1_6 a1_7))) else (lTl.j0 k a0 a4 true a1_0 a1_1 a1_2 a1_3 a1_4 a1_5 a1_6 a1_7))))))
noncomputable def lTl.T9 : Bool × List (List Nat × List Nat) := (true, [([], []), ([0], [0]), ([], []), ([2, 1], [2]), ([1, 3], [1, 3]), ([4, 3], [4]), ([5], [5]), ([6, 5, 5], [5, 6]), ([5], [5]), ([8, 7, 5], [5, 8]), ([7, 9, 9, 5], [5, 7, 9]), ([5, 10], [5, 10]), ([11, 10], [11]), ([12], [12]), ([13, 12, 12], [12, 13]), ([12], [12]), ([15, 14, 12], [12, 15]), ([14, 16, 12], [12, 14, 16]), ([12, 17], [12, 17]), ([18, 16], [18]), ([19], [19]), ([19], [19]), ([20, 21, 19, 19], [19, 20, 21]), ([19], [19]), ([19], [19]), ([23, 24, 22, 19], [19, 23, 24]), ([22, 25, 19], [19, 22, 25]), ([19, 26], [19, 26]), ([27, 25], [27]), ([28, 28], [28]), ([28, 29], [28, 29]), ([30, 29, 0, 1, 2, 3, 4, 5, 6, 7, 8, 9, 10, 11, 12, 13, 14, 15, 16, 17, 18, 19, 20, 21, 22, 23, 24, 25, 26, 27, 28, 29, 30], [30])])
noncomputable def lTl.B9 : List Nat := [0, 1, 0, 7, 15, 31, 63, 127, 63, 511, 1023, 2047, 4095, 8191, 16383, 8191, 65535, 131071, 262143, 524287, 1048575, 1048575, 4194303, 1048575, 1048575, 33554431, 67108863, 134217727, 268435455, 536870911, 1073741823, 2147483647]
theorem lTl.tab9 : rtab .any (opsOf Tryd.f6 9) = lTl.T9 := by kernel_rfl
theorem lTl.bits9 : waitsOk lTl.T9.2 lTl.B9 = true := by kernel_rfl
set_option maxHeartbeats 8000000 in
set_option maxRecDepth 100000 in
theorem lTl.calls (k : Nat) (a0 : Int) (a1_0 : Int) (a1_1 : Int) (a1_2 : Int) (a1_3 : Int) (a1_4 : Int) (a1_5 : Int) (a1_6 : Bool) (a1_7 : Int) (A2 : Option Addr) (c2 : Nat) (l2 : List Int) (a3 : Int) (a4 : Int) (r : Bool) (w : World) (hr2 : Kd.C (Kd.int .u8) w A2 l2.length l2) (hc2 : l2.length ≤ c2) (hT_ : Tab w) (h : lTl.f k a0 a1_0 a1_1 a1_2 a1_3 a1_4 a1_5 a1_6 a1_7 l2 a3 a4 = some r) :
    Calls Tryd.prog 6 #[.int .i64 a0, .agg #[.int .u8 a1_0, .int .i64 a1_1, .int .i64 a1_2, .int .i64 a1_3, .int .i64 a1_4, .int .i64 a1_5, .bool a1_6, .int .i64 a1_7], .slice A2 l2.length c2, .int .u8 a3, .int .i64 a4] w fun e w' => e = .returned (.bool r) ∧ Below w.heap.size w w' := by
  have HTAB := Aside0.mk hT_
  clear hT_
  have hu23 := Tryd.underlying23
  have HR2 := Aside0.mk hr2
  have HC2 := Aside0.mk hc2
  clear hr2 hc2
  have HB := Aside0.mk (Below.refl w.heap.size w)
  have H : (if (l2.length : Int) > 40 then ((l8_wakes.f).bind fun t252 => (some t252)) else ((operand_Take.f l2 a3).bind fun bt253 => ((r8_Take.f k l2 a3).bind fun bt265 => ((operand_Put.f a0 a1_0 a1_1 a1_2 a1_3 a1_4 a1_5 a1_6 a1_7).bind fun bt277 => ((r8_Put.f k a0 a1_0 a1_1 a1_2 a1_3 a1_4 a1_5 a1_6 a1_7).bind fun bt282 => (if bt253.1 = bt265.1 then (if (!(bt253.2.1 == bt265.2.1) || (!(bt253.2.2.1 == bt265.2.2.1) || (!(bt253.2.2.2.1 == bt265.2.2.2.1) || (!(bt253.2.2.2.2.1 == bt265.2.2.2.2.1) || (!(bt253.2.2.2.2.2.1 == bt265.2.2.2.2.2.1) || (!(bt253.2.2.2.2.2.2.1 == bt265.2.2.2.2.2.2.1) || (!(bt253.2.2.2.2.2.2.2.1 == bt265.2.2.2.2.2.2.2.1) || (!(bt253.2.2.2.2.2.2.2.2.1 == bt265.2.2.2.2.2.2.2.2.1))))))))) = true then (lTl.j0 k a0 a4 true a1_0 a1_1 a1_2 a1_3 a1_4 a1_5 a1_6 a1_7) else (if bt253.2.2.2.2.2.2.2.2.2.1 = bt265.2.2.2.2.2.2.2.2.2.1 then (if bt253.2.2.2.2.2.2.2.2.2.2 = bt265.2.2.2.2.2.2.2.2.2.2 then ((l8_same.f bt277.1 bt282.1).bind fun t287 => (if t287 = true then (if bt277.2.1 = bt282.2.1 then (lTl.j0 k a0 a4 (bt277.2.2 != bt282.2.2) a1_0 a1_1 a1_2 a1_3 a1_4 a1_5 a1_6 a1_7) else (lTl.j0 k a0 a4 true a1_0 a1_1 a1_2 a1_3 a1_4 a1_5 a1_6 a1_7)) else (lTl.j0 k a0 a4 true a1_0 a1_1 a1_2 a1_3 a1_4 a1_5 a1_6 a1_7))) else (lTl.j0 k a0 a4 true a1_0 a1_1 a1_2 a1_3 a1_4 a1_5 a1_6 a1_7)) else (lTl.j0 k a0 a4 true a1_0 a1_1 a1_2 a1_3 a1_4 a1_5 a1_6 a1_7))) else (lTl.j0 k a0 a4 true a1_0 a1_1 a1_2 a1_3 a1_4 a1_5 a1_6 a1_7))))))) = some r := h
  clear h
  by_cases c6 : (l2.length : Int) > 40
  · rw [if_pos c6] at H
    have c6b0 : decide (40 < (l2.length : Int)) = true := decide_eq_true c6
    have c6b1 : decide (40 < l2.length) = true := decide_eq_true (by omega)
    clear c6
    replace H := Option.bind_eq_some_iff.mp H
    obtain ⟨t252, A70, H⟩ := H
    replace H : (some t252) = some r := H
    have A7 := Aside0.mk A70
    clear A70
    obtain rfl := Option.some.inj H
    go_enter Tryd.func6, Tryd.ntmps6
    go_wp2_with (first | ((with_reducible refine gate_dst (N := 6) rfl ?_); refine box_event ?hg (N := 6) ?hd (cs := #[.int .u8 a1_0, .int .i64 a1_1, .int .i64 a1_2, .int .i64 a1_3, .int .i64 a1_4, .int .i64 a1_5, .bool a1_6, .int .i64 a1_7]) (t := 23) ?hr ?_; (case hd => rfl); (case hg => rfl); (case hr => first | (go_simp; done) | (go_simp; rfl)); intro gb251 hg w8 hbox hb; have n0_ := Aside0.mk (below_step (by repeat (first | (with_reducible first | exact HB.out | apply bX_ | apply bW_ | apply bY_) | exact HB.out)) hb); have n1_ := Aside0.mk (hbox); have n2_ := Aside0.mk ((by rw [hg]; exact (below_size (by repeat (first | (with_reducible first | exact HB.out | apply bX_ | apply bW_ | apply bY_) | exact HB.out))) : w.heap.size ≤ gb251)); have n3_ := Aside0.mk ((by rw [hg]; exact (below_size (by repeat (first | (with_reducible first | exact HB.out | apply bX_ | apply bW_ | apply bY_) | exact HB.out))) : w.heap.size ≤ gb251)); clear HB; have HB := n0_; have BK251 := n1_; have GW251 := n2_; have GE251 := n3_; clear n0_ n1_ n2_ n3_; clear hb hbox hg) | ((with_reducible refine gate_callee (f := 8) rfl ?_); refine goesL_ (some 28) rfl rfl Tryd.func8 (by kernel_rfl) rfl #[] rfl (by (try simp only [List.map_toArray, List.map_cons, List.map_nil]); first | done | rfl | (simp only [List.length_drop, List.length_take]; rfl)) ?_; (with_reducible refine (l8_wakes.calls  t252 _ A7.out).mono ?_); rintro e w9 ⟨rfl, hb⟩; refine ⟨_, rfl, ?_⟩; have n0_ := Aside0.mk (blk_below (g := gb251) (o := .cells #[.int .u8 a1_0, .int .i64 a1_1, .int .i64 a1_2, .int .i64 a1_3, .int .i64 a1_4, .int .i64 a1_5, .bool a1_6, .int .i64 a1_7] 23 (0, 0)) (by (with_reducible repeat (first | refine bN_ ?_ _ | refine bD_ ?_ | refine bA_ ?_ _)); exact BK251.out) hb); have n1_ := Aside0.mk (below_step (by repeat (first | (with_reducible first | exact HB.out | apply bX_ | apply bW_ | apply bY_ | refine bS_ ?_ GE251.out) | exact HB.out)) hb); clear BK251; clear HB; have BK251 := n0_; have HB := n1_; clear n0_ n1_; (try clear hb); (try clear hb2); (try clear hk); (try clear hi)))
    go_ret
    exact ⟨by first | rfl | (simp [errW_none, errW_some] <;> rfl) | (simp [*, errW_none, errW_some] <;> rfl), by repeat (first | (with_reducible first | exact HB.out | apply bX_ | apply bW_ | apply bY_ | refine bS_ ?_ GE251.out) | exact HB.out)⟩
  · rw [if_neg c6] at H
    have c6b0 : decide (40 < (l2.length : Int)) = false := decide_eq_false c6
    have c6b1 : decide (40 < l2.length) = false := decide_eq_false (by omega)
    clear c6
    replace H := Option.bind_eq_some_iff.mp H
    obtain ⟨⟨t253, t254, t255, t256, t257, t258, t259, t260, t261, t262, t263⟩, A100, H⟩ := H
    replace H : ((r8_Take.f k l2 a3).bind fun bt265 => ((operand_Put.f a0 a1_0 a1_1 a1_2 a1_3 a1_4 a1_5 a1_6 a1_7).bind fun bt277 => ((r8_Put.f k a0 a1_0 a1_1 a1_2 a1_3 a1_4 a1_5 a1_6 a1_7).bind fun bt282 => (if t253 = bt265.1 then (if (!(t254 == bt265.2.1) || (!(t255 == bt265.2.2.1) || (!(t256 == bt265.2.2.2.1) || (!(t257 == bt265.2.2.2.2.1) || (!(t258 == bt265.2.2.2.2.2.1) || (!(t259 == bt265.2.2.2.2.2.2.1) || (!(t260 == bt265.2.2.2.2.2.2.2.1) || (!(t261 == bt265.2.2.2.2.2.2.2.2.1))))))))) = true then (lTl.j0 k a0 a4 true a1_0 a1_1 a1_2 a1_3 a1_4 a1_5 a1_6 a1_7) else (if t262 = bt265.2.2.2.2.2.2.2.2.2.1 then (if t263 = bt265.2.2.2.2.2.2.2.2.2.2 then ((l8_same.f bt277.1 bt282.1).bind fun t287 => (if t287 = true then (if bt277.2.1 = bt282.2.1 then (lTl.j0 k a0 a4 (bt277.2.2 != bt282.2.2) a1_0 a1_1 a1_2 a1_3 a1_4 a1_5 a1_6 a1_7) else (lTl.j0 k a0 a4 true a1_0 a1_1 a1_2 a1_3 a1_4 a1_5 a1_6 a1_7)) else (lTl.j0 k a0 a4 true a1_0 a1_1 a1_2 a1_3 a1_4 a1_5 a1_6 a1_7))) else (lTl.j0 k a0 a4 true a1_0 a1_1 a1_2 a1_3 a1_4 a1_5 a1_6 a1_7)) else (lTl.j0 k a0 a4 true a1_0 a1_1 a1_2 a1_3 a1_4 a1_5 a1_6 a1_7))) else (lTl.j0 k a0 a4 true a1_0 a1_1 a1_2 a1_3 a1_4 a1_5 a1_6 a1_7))))) = some r := H
    have A10 := Aside0.mk A100
    clear A100
    replace H := Option.bind_eq_some_iff.mp H
    obtain ⟨⟨t265, t266, t267, t268, t269, t270, t271, t272, t273, t274, t275⟩, A110, H⟩ := H
    replace H : ((operand_Put.f a0 a1_0 a1_1 a1_2 a1_3 a1_4 a1_5 a1_6 a1_7).bind fun bt277 => ((r8_Put.f k a0 a1_0 a1_1 a1_2 a1_3 a1_4 a1_5 a1_6 a1_7).bind fun bt282 => (if t253 = t265 then (if (!(t254 == t266) || (!(t255 == t267) || (!(t256 == t268) || (!(t257 == t269) || (!(t258 == t270) || (!(t259 == t271) || (!(t260 == t272) || (!(t261 == t273))))))))) = true then (lTl.j0 k a0 a4 true a1_0 a1_1 a1_2 a1_3 a1_4 a1_5 a1_6 a1_7) else (if t262 = t274 then (if t263 = t275 then ((l8_same.f bt277.1 bt282.1).bind fun t287 => (if t287 = true then (if bt277.2.1 = bt282.2.1 then (lTl.j0 k a0 a4 (bt277.2.2 != bt282.2.2) a1_0 a1_1 a1_2 a1_3 a1_4 a1_5 a1_6 a1_7) else (lTl.j0 k a0 a4 true a1_0 a1_1 a1_2 a1_3 a1_4 a1_5 a1_6 a1_7)) else (lTl.j0 k a0 a4 true a1_0 a1_1 a1_2 a1_3 a1_4 a1_5 a1_6 a1_7))) else (lTl.j0 k a0 a4 true a1_0 a1_1 a1_2 a1_3 a1_4 a1_5 a1_6 a1_7)) else (lTl.j0 k a0 a4 true a1_0 a1_1 a1_2 a1_3 a1_4 a1_5 a1_6 a1_7))) else (lTl.j0 k a0 a4 true a1_0 a1_1 a1_2 a1_3 a1_4 a1_5 a1_6 a1_7)))) = some r := H
    have A11 := Aside0.mk A110
    clear A110
    replace H := Option.bind_eq_some_iff.mp H
    obtain ⟨⟨t277, t280, t281⟩, A120, H⟩ := H
    replace H : ((r8_Put.f k a0 a1_0 a1_1 a1_2 a1_3 a1_4 a1_5 a1_6 a1_7).bind fun bt282 => (if t253 = t265 then (if (!(t254 == t266) || (!(t255 == t267) || (!(t256 == t268) || (!(t257 == t269) || (!(t258 == t270) || (!(t259 == t271) || (!(t260 == t272) || (!(t261 == t273))))))))) = true then (lTl.j0 k a0 a4 true a1_0 a1_1 a1_2 a1_3 a1_4 a1_5 a1_6 a1_7) else (if t262 = t274 then (if t263 = t275 then ((l8_same.f t277 bt282.1).bind fun t287 => (if t287 = true then (if t280 = bt282.2.1 then (lTl.j0 k a0 a4 (t281 != bt282.2.2) a1_0 a1_1 a1_2 a1_3 a1_4 a1_5 a1_6 a1_7) else (lTl.j0 k a0 a4 true a1_0 a1_1 a1_2 a1_3 a1_4 a1_5 a1_6 a1_7)) else (lTl.j0 k a0 a4 true a1_0 a1_1 a1_2 a1_3 a1_4 a1_5 a1_6 a1_7))) else (lTl.j0 k a0 a4 true a1_0 a1_1 a1_2 a1_3 a1_4 a1_5 a1_6 a1_7)) else (lTl.j0 k a0 a4 true a1_0 a1_1 a1_2 a1_3 a1_4 a1_5 a1_6 a1_7))) else (lTl.j0 k a0 a4 true a1_0 a1_1 a1_2 a1_3 a1_4 a1_5 a1_6 a1_7))) = some r := H
    have A12 := Aside0.mk A120
    clear A120
    replace H := Option.bind_eq_some_iff.mp H
    obtain ⟨⟨t282, t285, t286⟩, A130, H⟩ := H
    replace H : (if t253 = t265 then (if (!(t254 == t266) || (!(t255 == t267) || (!(t256 == t268) || (!(t257 == t269) || (!(t258 == t270) || (!(t259 == t271) || (!(t260 == t272) || (!(t261 == t273))))))))) = true then (lTl.j0 k a0 a4 true a1_0 a1_1 a1_2 a1_3 a1_4 a1_5 a1_6 a1_7) else (if t262 = t274 then (if t263 = t275 then ((l8_same.f t277 t282).bind fun t287 => (if t287 = true then (if t280 = t285 then (lTl.j0 k a0 a4 (t281 != t286) a1_0 a1_1 a1_2 a1_3 a1_4 a1_5 a1_6 a1_7) else (lTl.j0 k a0 a4 true a1_0 a1_1 a1_2 a1_3 a1_4 a1_5 a1_6 a1_7)) else (lTl.j0 k a0 a4 true a1_0 a1_1 a1_2 a1_3 a1_4 a1_5 a1_6 a1_7))) else (lTl.j0 k a0 a4 true a1_0 a1_1 a1_2 a1_3 a1_4 a1_5 a1_6 a1_7)) else (lTl.j0 k a0 a4 true a1_0 a1_1 a1_2 a1_3 a1_4 a1_5 a1_6 a1_7))) else (lTl.j0 k a0 a4 true a1_0 a1_1 a1_2 a1_3 a1_4 a1_5 a1_6 a1_7)) = some r := H
    have A13 := Aside0.mk A130
    clear A130
    have HC14 := Aside0.mk H
    clear H
    go_enter Tryd.func6, Tryd.ntmps6
    go_upto_region 7 with (first | ((with_reducible refine gate_dst (N := 6) rfl ?_); refine box_event ?hg (N := 6) ?hd (cs := #[.int .u8 a1_0, .int .i64 a1_1, .int .i64 a1_2, .int .i64 a1_3, .int .i64 a1_4, .int .i64 a1_5, .bool a1_6, .int .i64 a1_7]) (t := 23) ?hr ?_; (case hd => rfl); (case hg => rfl); (case hr => first | (go_simp; done) | (go_simp; rfl)); intro gb251 hg w15 hbox hb; have n0_ := Aside0.mk (below_step (by repeat (first | (with_reducible first | exact HB.out | apply bX_ | apply bW_ | apply bY_) | exact HB.out)) hb); have n1_ := Aside0.mk (hbox); have n2_ := Aside0.mk ((by rw [hg]; exact (below_size (by repeat (first | (with_reducible first | exact HB.out | apply bX_ | apply bW_ | apply bY_) | exact HB.out))) : w.heap.size ≤ gb251)); have n3_ := Aside0.mk ((by rw [hg]; exact (below_size (by repeat (first | (with_reducible first | exact HB.out | apply bX_ | apply bW_ | apply bY_) | exact HB.out))) : w.heap.size ≤ gb251)); clear HB; have HB := n0_; have BK251 := n1_; have GW251 := n2_; have GE251 := n3_; clear n0_ n1_ n2_ n3_; clear hb hbox hg) | ((with_reducible refine gate_callee (f := 11) rfl ?_); refine goesL_ (some 32) rfl rfl Tryd.func11 (by kernel_rfl) rfl #[.slice A2 l2.length c2, .int .u8 a3] rfl (by (try simp only [List.map_toArray, List.map_cons, List.map_nil]); first | done | rfl | (simp only [List.length_drop, List.length_take]; rfl)) ?_; (with_reducible refine (operand_Take.calls _ _ l2 a3 t253 t254 t255 t256 t257 t258 t259 t260 t261 t262 t263 _ ?side1 ?side2 A10.out).mono ?_); (case side1 => repeat (first | exact (Kd.C_below HR2.out HB.out) | (with_reducible refine Kd.C_alloc ?_ _) | (with_reducible refine Kd.C_drewN ?_ _) | (with_reducible refine Kd.C_drew ?_))); (case side2 => exact HC2.out); rintro e w16 ⟨rfl, hb⟩; refine ⟨_, rfl, ?_⟩; have n0_ := Aside0.mk (blk_below (g := gb251) (o := .cells #[.int .u8 a1_0, .int .i64 a1_1, .int .i64 a1_2, .int .i64 a1_3, .int .i64 a1_4, .int .i64 a1_5, .bool a1_6, .int .i64 a1_7] 23 (0, 0)) (by (with_reducible repeat (first | refine bN_ ?_ _ | refine bD_ ?_ | refine bA_ ?_ _)); exact BK251.out) hb); have n1_ := Aside0.mk (below_step (by repeat (first | (with_reducible first | exact HB.out | apply bX_ | apply bW_ | apply bY_ | refine bS_ ?_ GE251.out) | exact HB.out)) hb); clear BK251; clear HB; have BK251 := n0_; have HB := n1_; clear n0_ n1_; (try clear hb); (try clear hb2); (try clear hk); (try clear hi)) | ((with_reducible refine gate_dst (N := 12) rfl ?_); refine box_event ?hg (N := 12) ?hd (cs := #[.int .u8 0, .int .i64 0, .int .i64 0, .int .i64 0, .int .i64 0, .int .i64 0, .bool false, .int .i64 0]) (t := 23) ?hr ?_; (case hd => rfl); (case hg => rfl); (case hr => first | (go_simp; done) | (go_simp; rfl)); intro gb264 hg w17 hbox hb; have n0_ := Aside0.mk (blk_below (g := gb251) (o := .cells #[.int .u8 a1_0, .int .i64 a1_1, .int .i64 a1_2, .int .i64 a1_3, .int .i64 a1_4, .int .i64 a1_5, .bool a1_6, .int .i64 a1_7] 23 (0, 0)) (by (with_reducible repeat (first | refine bN_ ?_ _ | refine bD_ ?_ | refine bA_ ?_ _)); exact BK251.out) hb); have n1_ := Aside0.mk (below_step (by repeat (first | (with_reducible first | exact HB.out | apply bX_ | apply bW_ | apply bY_ | refine bS_ ?_ GE251.out) | exact HB.out)) hb); have n2_ := Aside0.mk (hbox); have n3_ := Aside0.mk ((by rw [hg]; exact (below_size (by repeat (first | (with_reducible first | exact HB.out | apply bX_ | apply bW_ | apply bY_ | refine bS_ ?_ GE251.out) | exact HB.out))) : w.heap.size ≤ gb264)); have n4_ := Aside0.mk ((by rw [hg]; exact (below_size (by repeat (first | (with_reducible first | exact HB.out | apply bX_ | apply bW_ | apply bY_ | refine bS_ ?_ GE251.out) | exact HB.out))) : w.heap.size ≤ gb264)); have n5_ := Aside0.mk ((by rw [hg]; exact Nat.ne_of_lt (blk_lt (g := gb251) (o := .cells #[.int .u8 a1_0, .int .i64 a1_1, .int .i64 a1_2, .int .i64 a1_3, .int .i64 a1_4, .int .i64 a1_5, .bool a1_6, .int .i64 a1_7] 23 (0, 0)) (by (with_reducible repeat (first | refine bN_ ?_ _ | refine bD_ ?_ | refine bA_ ?_ _)); exact BK251.out)) : gb251 ≠ gb264)); have n6_ := Aside0.mk ((by rw [hg]; exact Nat.ne_of_gt (blk_lt (g := gb251) (o := .cells #[.int .u8 a1_0, .int .i64 a1_1, .int .i64 a1_2, .int .i64 a1_3, .int .i64 a1_4, .int .i64 a1_5, .bool a1_6, .int .i64 a1_7] 23 (0, 0)) (by (with_reducible repeat (first | refine bN_ ?_ _ | refine bD_ ?_ | refine bA_ ?_ _)); exact BK251.out)) : gb264 ≠ gb251)); clear BK251; clear HB; have BK251 := n0_; have HB := n1_; have BK264 := n2_; have GW264 := n3_; have GE264 := n4_; have NB251_264 := n5_; have NB264_251 := n6_; clear n0_ n1_ n2_ n3_ n4_ n5_ n6_; clear hb hbox hg; have hnb18 := NB264_251.out; have hnc18 := NB251_264.out; have hcz19_0 : w17.cell? ⟨gb264, 0, none⟩ = some (.int .u8 0) := (bC_ BK264.out 0).trans rfl; have hcz19_1 : w17.cell? ⟨gb264, 1, none⟩ = some (.int .i64 0) := (bC_ BK264.out 1).trans rfl; have hcz19_2 : w17.cell? ⟨gb264, 2, none⟩ = some (.int .i64 0) := (bC_ BK264.out 2).trans rfl; have hcz19_3 : w17.cell? ⟨gb264, 3, none⟩ = some (.int .i64 0) := (bC_ BK264.out 3).trans rfl; have hcz19_4 : w17.cell? ⟨gb264, 4, none⟩ = some (.int .i64 0) := (bC_ BK264.out 4).trans rfl; have hcz19_5 : w17.cell? ⟨gb264, 5, none⟩ = some (.int .i64 0) := (bC_ BK264.out 5).trans rfl; have hcz19_6 : w17.cell? ⟨gb264, 6, none⟩ = some (.bool false) := (bC_ BK264.out 6).trans rfl; have hcz19_7 : w17.cell? ⟨gb264, 7, none⟩ = some (.int .i64 0) := (bC_ BK264.out 7).trans rfl; have hfz19_0 := bF_ BK264.out 0; have hfz19_1 := bF_ BK264.out 1; have hfz19_2 := bF_ BK264.out 2; have hfz19_3 := bF_ BK264.out 3; have hfz19_4 := bF_ BK264.out 4; have hfz19_5 := bF_ BK264.out 5; have hfz19_6 := bF_ BK264.out 6; have hfz19_7 := bF_ BK264.out 7) | ((with_reducible refine gate_callee (f := 12) rfl ?_); refine goesL_ (some 40) rfl rfl Tryd.func12 (by kernel_rfl) rfl #[.slice A2 l2.length c2, .int .u8 a3] rfl (by (try simp only [List.map_toArray, List.map_cons, List.map_nil]); first | done | rfl | (simp only [List.length_drop, List.length_take]; rfl)) ?_; (with_reducible refine (r8_Take.calls k _ _ l2 a3 t265 t266 t267 t268 t269 t270 t271 t272 t273 t274 t275 _ ?side1 ?side2 A11.out).mono ?_); (case side1 => exact Kd.C_below HR2.out (by repeat (first | (with_reducible first | exact HB.out | apply bX_ | apply bW_ | apply bY_ | refine bS_ ?_ GE251.out | refine bS_ ?_ GE264.out) | exact HB.out))); (case side2 => exact HC2.out); rintro e w20 ⟨rfl, hb⟩; refine ⟨_, rfl, ?_⟩; have n0_ := Aside0.mk (blk_below (g := gb251) (o := .cells #[.int .u8 a1_0, .int .i64 a1_1, .int .i64 a1_2, .int .i64 a1_3, .int .i64 a1_4, .int .i64 a1_5, .bool a1_6, .int .i64 a1_7] 23 (0, 0)) (by (with_reducible repeat (first | refine bN_ ?_ _ | refine bD_ ?_ | refine bA_ ?_ _)); refine blk_far ?_ NB251_264.out _; (with_reducible repeat (first | refine bN_ ?_ _ | refine bD_ ?_ | refine bA_ ?_ _)); refine blk_far ?_ NB251_264.out _; (with_reducible repeat (first | refine bN_ ?_ _ | refine bD_ ?_ | refine bA_ ?_ _)); refine blk_far ?_ NB251_264.out _; (with_reducible repeat (first | refine bN_ ?_ _ | refine bD_ ?_ | refine bA_ ?_ _)); refine blk_far ?_ NB251_264.out _; (with_reducible repeat (first | refine bN_ ?_ _ | refine bD_ ?_ | refine bA_ ?_ _)); refine blk_far ?_ NB251_264.out _; (with_reducible repeat (first | refine bN_ ?_ _ | refine bD_ ?_ | refine bA_ ?_ _)); refine blk_far ?_ NB251_264.out _; (with_reducible repeat (first | refine bN_ ?_ _ | refine bD_ ?_ | refine bA_ ?_ _)); refine blk_far ?_ NB251_264.out _; (with_reducible repeat (first | refine bN_ ?_ _ | refine bD_ ?_ | refine bA_ ?_ _)); refine blk_far ?_ NB251_264.out _; (with_reducible repeat (first | refine bN_ ?_ _ | refine bD_ ?_ | refine bA_ ?_ _)); exact BK251.out) hb); have n1_ := Aside0.mk (blk_below (g := gb264) (o := .cells #[.int .u8 t254, .int .i64 t255, .int .i64 t256, .int .i64 t257, .int .i64 t258, .int .i64 t259, .bool t260, .int .i64 t261] 23 (0, 0)) (by (with_reducible repeat (first | refine bN_ ?_ _ | refine bD_ ?_ | refine bA_ ?_ _)); refine blk_put (cs := #[.int .u8 t254, .int .i64 t255, .int .i64 t256, .int .i64 t257, .int .i64 t258, .int .i64 t259, .bool t260, .int .i64 0]) ?_ 7 _ rfl; (with_reducible repeat (first | refine bN_ ?_ _ | refine bD_ ?_ | refine bA_ ?_ _)); refine blk_put (cs := #[.int .u8 t254, .int .i64 t255, .int .i64 t256, .int .i64 t257, .int .i64 t258, .int .i64 t259, .bool false, .int .i64 0]) ?_ 6 _ rfl; (with_reducible repeat (first | refine bN_ ?_ _ | refine bD_ ?_ | refine bA_ ?_ _)); refine blk_put (cs := #[.int .u8 t254, .int .i64 t255, .int .i64 t256, .int .i64 t257, .int .i64 t258, .int .i64 0, .bool false, .int .i64 0]) ?_ 5 _ rfl; (with_reducible repeat (first | refine bN_ ?_ _ | refine bD_ ?_ | refine bA_ ?_ _)); refine blk_put (cs := #[.int .u8 t254, .int .i64 t255, .int .i64 t256, .int .i64 t257, .int .i64 0, .int .i64 0, .bool false, .int .i64 0]) ?_ 4 _ rfl; (with_reducible repeat (first | refine bN_ ?_ _ | refine bD_ ?_ | refine bA_ ?_ _)); refine blk_put (cs := #[.int .u8 t254, .int .i64 t255, .int .i64 t256, .int .i64 0, .int .i64 0, .int .i64 0, .bool false, .int .i64 0]) ?_ 3 _ rfl; (with_reducible repeat (first | refine bN_ ?_ _ | refine bD_ ?_ | refine bA_ ?_ _)); refine blk_put (cs := #[.int .u8 t254, .int .i64 t255, .int .i64 0, .int .i64 0, .int .i64 0, .int .i64 0, .bool false, .int .i64 0]) ?_ 2 _ rfl; (with_reducible repeat (first | refine bN_ ?_ _ | refine bD_ ?_ | refine bA_ ?_ _)); refine blk_put (cs := #[.int .u8 t254, .int .i64 0, .int .i64 0, .int .i64 0, .int .i64 0, .int .i64 0, .bool false, .int .i64 0]) ?_ 1 _ rfl; (with_reducible repeat (first | refine bN_ ?_ _ | refine bD_ ?_ | refine bA_ ?_ _)); refine blk_put (cs := #[.int .u8 0, .int .i64 0, .int .i64 0, .int .i64 0, .int .i64 0, .int .i64 0, .bool false, .int .i64 0]) ?_ 0 _ rfl; (with_reducible repeat (first | refine bN_ ?_ _ | refine bD_ ?_ | refine bA_ ?_ _)); exact BK264.out) hb); have n2_ := Aside0.mk (below_step (by repeat (first | (with_reducible first | exact HB.out | apply bX_ | apply bW_ | apply bY_ | refine bS_ ?_ GE251.out | refine bS_ ?_ GE264.out) | exact HB.out)) hb); clear BK251; clear BK264; clear HB; have BK251 := n0_; have BK264 := n1_; have HB := n2_; clear n0_ n1_ n2_; (try clear hb); (try clear hb2); (try clear hk); (try clear hi)) | ((with_reducible refine gate_dst (N := 16) rfl ?_); refine box_event ?hg (N := 16) ?hd (cs := #[.int .u8 0, .int .i64 0, .int .i64 0, .int .i64 0, .int .i64 0, .int .i64 0, .bool false, .int .i64 0]) (t := 23) ?hr ?_; (case hd => rfl); (case hg => rfl); (case hr => first | (go_simp; done) | (go_simp; rfl)); intro gb276 hg w21 hbox hb; have n0_ := Aside0.mk (blk_below (g := gb251) (o := .cells #[.int .u8 a1_0, .int .i64 a1_1, .int .i64 a1_2, .int .i64 a1_3, .int .i64 a1_4, .int .i64 a1_5, .bool a1_6, .int .i64 a1_7] 23 (0, 0)) (by (with_reducible repeat (first | refine bN_ ?_ _ | refine bD_ ?_ | refine bA_ ?_ _)); exact BK251.out) hb); have n1_ := Aside0.mk (blk_below (g := gb264) (o := .cells #[.int .u8 t254, .int .i64 t255, .int .i64 t256, .int .i64 t257, .int .i64 t258, .int .i64 t259, .bool t260, .int .i64 t261] 23 (0, 0)) (by (with_reducible repeat (first | refine bN_ ?_ _ | refine bD_ ?_ | refine bA_ ?_ _)); exact BK264.out) hb); have n2_ := Aside0.mk (below_step (by repeat (first | (with_reducible first | exact HB.out | apply bX_ | apply bW_ | apply bY_ | refine bS_ ?_ GE251.out | refine bS_ ?_ GE264.out) | exact HB.out)) hb); have n3_ := Aside0.mk (hbox); have n4_ := Aside0.mk ((by rw [hg]; exact (below_size (by repeat (first | (with_reducible first | exact HB.out | apply bX_ | apply bW_ | apply bY_ | refine bS_ ?_ GE251.out | refine bS_ ?_ GE264.out) | exact HB.out))) : w.heap.size ≤ gb276)); have n5_ := Aside0.mk ((by rw [hg]; exact (below_size (by repeat (first | (with_reducible first | exact HB.out | apply bX_ | apply bW_ | apply bY_ | refine bS_ ?_ GE251.out | refine bS_ ?_ GE264.out) | exact HB.out))) : w.heap.size ≤ gb276)); have n6_ := Aside0.mk ((by rw [hg]; exact Nat.ne_of_lt (blk_lt (g := gb251) (o := .cells #[.int .u8 a1_0, .int .i64 a1_1, .int .i64 a1_2, .int .i64 a1_3, .int .i64 a1_4, .int .i64 a1_5, .bool a1_6, .int .i64 a1_7] 23 (0, 0)) (by (with_reducible repeat (first | refine bN_ ?_ _ | refine bD_ ?_ | refine bA_ ?_ _)); exact BK251.out)) : gb251 ≠ gb276)); have n7_ := Aside0.mk ((by rw [hg]; exact Nat.ne_of_gt (blk_lt (g := gb251) (o := .cells #[.int .u8 a1_0, .int .i64 a1_1, .int .i64 a1_2, .int .i64 a1_3, .int .i64 a1_4, .int .i64 a1_5, .bool a1_6, .int .i64 a1_7] 23 (0, 0)) (by (with_reducible repeat (first | refine bN_ ?_ _ | refine bD_ ?_ | refine bA_ ?_ _)); exact BK251.out)) : gb276 ≠ gb251)); have n8_ := Aside0.mk ((by rw [hg]; exact Nat.ne_of_lt (blk_lt (g := gb264) (o := .cells #[.int .u8 t254, .int .i64 t255, .int .i64 t256, .int .i64 t257, .int .i64 t258, .int .i64 t259, .bool t260, .int .i64 t261] 23 (0, 0)) (by (with_reducible repeat (first | refine bN_ ?_ _ | refine bD_ ?_ | refine bA_ ?_ _)); exact BK264.out)) : gb264 ≠ gb276)); have n9_ := Aside0.mk ((by rw [hg]; exact Nat.ne_of_gt (blk_lt (g := gb264) (o := .cells #[.int .u8 t254, .int .i64 t255, .int .i64 t256, .int .i64 t257, .int .i64 t258, .int .i64 t259, .bool t260, .int .i64 t261] 23 (0, 0)) (by (with_reducible repeat (first | refine bN_ ?_ _ | refine bD_ ?_ | refine bA_ ?_ _)); exact BK264.out)) : gb276 ≠ gb264)); clear BK251; clear BK264; clear HB; have BK251 := n0_; have BK264 := n1_; have HB := n2_; have BK276 := n3_; have GW276 := n4_; have GE276 := n5_; have NB251_276 := n6_; have NB276_251 := n7_; have NB264_276 := n8_; have NB276_264 := n9_; clear n0_ n1_ n2_ n3_ n4_ n5_ n6_ n7_ n8_ n9_; clear hb hbox hg; have hnb22 := NB276_251.out; have hnc22 := NB251_276.out; have hnb23 := NB276_264.out; have hnc23 := NB264_276.out; have hcz24_0 : w21.cell? ⟨gb276, 0, none⟩ = some (.int .u8 0) := (bC_ BK276.out 0).trans rfl; have hcz24_1 : w21.cell? ⟨gb276, 1, none⟩ = some (.int .i64 0) := (bC_ BK276.out 1).trans rfl; have hcz24_2 : w21.cell? ⟨gb276, 2, none⟩ = some (.int .i64 0) := (bC_ BK276.out 2).trans rfl; have hcz24_3 : w21.cell? ⟨gb276, 3, none⟩ = some (.int .i64 0) := (bC_ BK276.out 3).trans rfl; have hcz24_4 : w21.cell? ⟨gb276, 4, none⟩ = some (.int .i64 0) := (bC_ BK276.out 4).trans rfl; have hcz24_5 : w21.cell? ⟨gb276, 5, none⟩ = some (.int .i64 0) := (bC_ BK276.out 5).trans rfl; have hcz24_6 : w21.cell? ⟨gb276, 6, none⟩ = some (.bool false) := (bC_ BK276.out 6).trans rfl; have hcz24_7 : w21.cell? ⟨gb276, 7, none⟩ = some (.int .i64 0) := (bC_ BK276.out 7).trans rfl; have hfz24_0 := bF_ BK276.out 0; have hfz24_1 := bF_ BK276.out 1; have hfz24_2 := bF_ BK276.out 2; have hfz24_3 := bF_ BK276.out 3; have hfz24_4 := bF_ BK276.out 4; have hfz24_5 := bF_ BK276.out 5; have hfz24_6 := bF_ BK276.out 6; have hfz24_7 := bF_ BK276.out 7; have hcz25_0 : w21.cell? ⟨gb251, 0, none⟩ = some (.int .u8 a1_0) := (bC_ BK251.out 0).trans rfl; have hcz25_1 : w21.cell? ⟨gb251, 1, none⟩ = some (.int .i64 a1_1) := (bC_ BK251.out 1).trans rfl; have hcz25_2 : w21.cell? ⟨gb251, 2, none⟩ = some (.int .i64 a1_2) := (bC_ BK251.out 2).trans rfl; have hcz25_3 : w21.cell? ⟨gb251, 3, none⟩ = some (.int .i64 a1_3) := (bC_ BK251.out 3).trans rfl; have hcz25_4 : w21.cell? ⟨gb251, 4, none⟩ = some (.int .i64 a1_4) := (bC_ BK251.out 4).trans rfl; have hcz25_5 : w21.cell? ⟨gb251, 5, none⟩ = some (.int .i64 a1_5) := (bC_ BK251.out 5).trans rfl; have hcz25_6 : w21.cell? ⟨gb251, 6, none⟩ = some (.bool a1_6) := (bC_ BK251.out 6).trans rfl; have hcz25_7 : w21.cell? ⟨gb251, 7, none⟩ = some (.int .i64 a1_7) := (bC_ BK251.out 7).trans rfl; have hfz25_0 := bF_ BK251.out 0; have hfz25_1 := bF_ BK251.out 1; have hfz25_2 := bF_ BK251.out 2; have hfz25_3 := bF_ BK251.out 3; have hfz25_4 := bF_ BK251.out 4; have hfz25_5 := bF_ BK251.out 5; have hfz25_6 := bF_ BK251.out 6; have hfz25_7 := bF_ BK251.out 7) | ((with_reducible refine gate_callee (f := 9) rfl ?_); refine goesL_ (some 48) rfl rfl Tryd.func9 (by kernel_rfl) rfl #[.int .i64 a0, .agg #[.int .u8 a1_0, .int .i64 a1_1, .int .i64 a1_2, .int .i64 a1_3, .int .i64 a1_4, .int .i64 a1_5, .bool a1_6, .int .i64 a1_7]] rfl (by (try simp only [List.map_toArray, List.map_cons, List.map_nil]); first | done | rfl | (simp only [List.length_drop, List.length_take]; rfl)) ?_; (with_reducible refine (operand_Put.calls a0 a1_0 a1_1 a1_2 a1_3 a1_4 a1_5 a1_6 a1_7 t277 t280 t281 _ (Tab.below HTAB.out (by repeat (first | (with_reducible first | exact HB.out | apply bX_ | apply bW_ | apply bY_ | refine bS_ ?_ GE251.out | refine bS_ ?_ GE264.out | refine bS_ ?_ GE276.out) | exact HB.out))) A12.out).mono ?_); rintro e w26 ⟨v278, rfl, ho0, hb⟩; refine ⟨_, rfl, ?_⟩; have n0_ := Aside0.mk (Kd.R_lower ho0 (below_size (by repeat (first | (with_reducible first | exact HB.out | apply bX_ | apply bW_ | apply bY_ | refine bS_ ?_ GE251.out | refine bS_ ?_ GE264.out | refine bS_ ?_ GE276.out) | exact HB.out)))); have n1_ := Aside0.mk (blk_below (g := gb251) (o := .cells #[.int .u8 a1_0, .int .i64 a1_1, .int .i64 a1_2, .int .i64 a1_3, .int .i64 a1_4, .int .i64 a1_5, .bool a1_6, .int .i64 a1_7] 23 (0, 0)) (by (with_reducible repeat (first | refine bN_ ?_ _ | refine bD_ ?_ | refine bA_ ?_ _)); refine blk_far ?_ NB251_276.out _; (with_reducible repeat (first | refine bN_ ?_ _ | refine bD_ ?_ | refine bA_ ?_ _)); refine blk_far ?_ NB251_276.out _; (with_reducible repeat (first | refine bN_ ?_ _ | refine bD_ ?_ | refine bA_ ?_ _)); refine blk_far ?_ NB251_276.out _; (with_reducible repeat (first | refine bN_ ?_ _ | refine bD_ ?_ | refine bA_ ?_ _)); refine blk_far ?_ NB251_276.out _; (with_reducible repeat (first | refine bN_ ?_ _ | refine bD_ ?_ | refine bA_ ?_ _)); refine blk_far ?_ NB251_276.out _; (with_reducible repeat (first | refine bN_ ?_ _ | refine bD_ ?_ | refine bA_ ?_ _)); refine blk_far ?_ NB251_276.out _; (with_reducible repeat (first | refine bN_ ?_ _ | refine bD_ ?_ | refine bA_ ?_ _)); refine blk_far ?_ NB251_276.out _; (with_reducible repeat (first | refine bN_ ?_ _ | refine bD_ ?_ | refine bA_ ?_ _)); refine blk_far ?_ NB251_276.out _; (with_reducible repeat (first | refine bN_ ?_ _ | refine bD_ ?_ | refine bA_ ?_ _)); exact BK251.out) hb); have n2_ := Aside0.mk (blk_below (g := gb264) (o := .cells #[.int .u8 t254, .int .i64 t255, .int .i64 t256, .int .i64 t257, .int .i64 t258, .int .i64 t259, .bool t260, .int .i64 t261] 23 (0, 0)) (by (with_reducible repeat (first | refine bN_ ?_ _ | refine bD_ ?_ | refine bA_ ?_ _)); refine blk_far ?_ NB264_276.out _; (with_reducible repeat (first | refine bN_ ?_ _ | refine bD_ ?_ | refine bA_ ?_ _)); refine blk_far ?_ NB264_276.out _; (with_reducible repeat (first | refine bN_ ?_ _ | refine bD_ ?_ | refine bA_ ?_ _)); refine blk_far ?_ NB264_276.out _; (with_reducible repeat (first | refine bN_ ?_ _ | refine bD_ ?_ | refine bA_ ?_ _)); refine blk_far ?_ NB264_276.out _; (with_reducible repeat (first | refine bN_ ?_ _ | refine bD_ ?_ | refine bA_ ?_ _)); refine blk_far ?_ NB264_276.out _; (with_reducible repeat (first | refine bN_ ?_ _ | refine bD_ ?_ | refine bA_ ?_ _)); refine blk_far ?_ NB264_276.out _; (with_reducible repeat (first | refine bN_ ?_ _ | refine bD_ ?_ | refine bA_ ?_ _)); refine blk_far ?_ NB264_276.out _; (with_reducible repeat (first | refine bN_ ?_ _ | refine bD_ ?_ | refine bA_ ?_ _)); refine blk_far ?_ NB264_276.out _; (with_reducible repeat (first | refine bN_ ?_ _ | refine bD_ ?_ | refine bA_ ?_ _)); exact BK264.out) hb); have n3_ := Aside0.mk (blk_below (g := gb276) (o := .cells #[.int .u8 t266, .int .i64 t267, .int .i64 t268, .int .i64 t269, .int .i64 t270, .int .i64 t271, .bool t272, .int .i64 t273] 23 (0, 0)) (by (with_reducible repeat (first | refine bN_ ?_ _ | refine bD_ ?_ | refine bA_ ?_ _)); refine blk_put (cs := #[.int .u8 t266, .int .i64 t267, .int .i64 t268, .int .i64 t269, .int .i64 t270, .int .i64 t271, .bool t272, .int .i64 0]) ?_ 7 _ rfl; (with_reducible repeat (first | refine bN_ ?_ _ | refine bD_ ?_ | refine bA_ ?_ _)); refine blk_put (cs := #[.int .u8 t266, .int .i64 t267, .int .i64 t268, .int .i64 t269, .int .i64 t270, .int .i64 t271, .bool false, .int .i64 0]) ?_ 6 _ rfl; (with_reducible repeat (first | refine bN_ ?_ _ | refine bD_ ?_ | refine bA_ ?_ _)); refine blk_put (cs := #[.int .u8 t266, .int .i64 t267, .int .i64 t268, .int .i64 t269, .int .i64 t270, .int .i64 0, .bool false, .int .i64 0]) ?_ 5 _ rfl; (with_reducible repeat (first | refine bN_ ?_ _ | refine bD_ ?_ | refine bA_ ?_ _)); refine blk_put (cs := #[.int .u8 t266, .int .i64 t267, .int .i64 t268, .int .i64 t269, .int .i64 0, .int .i64 0, .bool false, .int .i64 0]) ?_ 4 _ rfl; (with_reducible repeat (first | refine bN_ ?_ _ | refine bD_ ?_ | refine bA_ ?_ _)); refine blk_put (cs := #[.int .u8 t266, .int .i64 t267, .int .i64 t268, .int .i64 0, .int .i64 0, .int .i64 0, .bool false, .int .i64 0]) ?_ 3 _ rfl; (with_reducible repeat (first | refine bN_ ?_ _ | refine bD_ ?_ | refine bA_ ?_ _)); refine blk_put (cs := #[.int .u8 t266, .int .i64 t267, .int .i64 0, .int .i64 0, .int .i64 0, .int .i64 0, .bool false, .int .i64 0]) ?_ 2 _ rfl; (with_reducible repeat (first | refine bN_ ?_ _ | refine bD_ ?_ | refine bA_ ?_ _)); refine blk_put (cs := #[.int .u8 t266, .int .i64 0, .int .i64 0, .int .i64 0, .int .i64 0, .int .i64 0, .bool false, .int .i64 0]) ?_ 1 _ rfl; (with_reducible repeat (first | refine bN_ ?_ _ | refine bD_ ?_ | refine bA_ ?_ _)); refine blk_put (cs := #[.int .u8 0, .int .i64 0, .int .i64 0, .int .i64 0, .int .i64 0, .int .i64 0, .bool false, .int .i64 0]) ?_ 0 _ rfl; (with_reducible repeat (first | refine bN_ ?_ _ | refine bD_ ?_ | refine bA_ ?_ _)); exact BK276.out) hb); have n4_ := Aside0.mk (below_step (by repeat (first | (with_reducible first | exact HB.out | apply bX_ | apply bW_ | apply bY_ | refine bS_ ?_ GE251.out | refine bS_ ?_ GE264.out | refine bS_ ?_ GE276.out) | exact HB.out)) hb); clear BK251; clear BK264; clear BK276; clear HB; have HO279 := n0_; have BK251 := n1_; have BK264 := n2_; have BK276 := n3_; have HB := n4_; clear n0_ n1_ n2_ n3_ n4_; (try clear hb); (try clear hb2); (try clear hk); (try clear hi); (try clear ho0); have hcz27_0 : w26.cell? ⟨gb251, 0, none⟩ = some (.int .u8 a1_0) := (bC_ BK251.out 0).trans rfl; have hcz27_1 : w26.cell? ⟨gb251, 1, none⟩ = some (.int .i64 a1_1) := (bC_ BK251.out 1).trans rfl; have hcz27_2 : w26.cell? ⟨gb251, 2, none⟩ = some (.int .i64 a1_2) := (bC_ BK251.out 2).trans rfl; have hcz27_3 : w26.cell? ⟨gb251, 3, none⟩ = some (.int .i64 a1_3) := (bC_ BK251.out 3).trans rfl; have hcz27_4 : w26.cell? ⟨gb251, 4, none⟩ = some (.int .i64 a1_4) := (bC_ BK251.out 4).trans rfl; have hcz27_5 : w26.cell? ⟨gb251, 5, none⟩ = some (.int .i64 a1_5) := (bC_ BK251.out 5).trans rfl; have hcz27_6 : w26.cell? ⟨gb251, 6, none⟩ = some (.bool a1_6) := (bC_ BK251.out 6).trans rfl; have hcz27_7 : w26.cell? ⟨gb251, 7, none⟩ = some (.int .i64 a1_7) := (bC_ BK251.out 7).trans rfl; have hfz27_0 := bF_ BK251.out 0; have hfz27_1 := bF_ BK251.out 1; have hfz27_2 := bF_ BK251.out 2; have hfz27_3 := bF_ BK251.out 3; have hfz27_4 := bF_ BK251.out 4; have hfz27_5 := bF_ BK251.out 5; have hfz27_6 := bF_ BK251.out 6; have hfz27_7 := bF_ BK251.out 7) | ((with_reducible refine gate_callee (f := 13) rfl ?_); refine goesL_ (some 55) rfl rfl Tryd.func13 (by kernel_rfl) rfl #[.int .i64 a0, .agg #[.int .u8 a1_0, .int .i64 a1_1, .int .i64 a1_2, .int .i64 a1_3, .int .i64 a1_4, .int .i64 a1_5, .bool a1_6, .int .i64 a1_7]] rfl (by (try simp only [List.map_toArray, List.map_cons, List.map_nil]); first | done | rfl | (simp only [List.length_drop, List.length_take]; rfl)) ?_; (with_reducible refine (r8_Put.calls k a0 a1_0 a1_1 a1_2 a1_3 a1_4 a1_5 a1_6 a1_7 t282 t285 t286 _ A13.out).mono ?_); rintro e w28 ⟨v283, rfl, ho0, hb⟩; refine ⟨_, rfl, ?_⟩; have n0_ := Aside0.mk (Kd.R_elder' (by (with_reducible repeat (first | apply Kd.R_alloc | apply Kd.R_drewN | apply Kd.R_drew)); exact HO279.out) (by first | exact Kd.R_base ho0 | exact Kd.R_base (Kd.S_R ho0) | exact Kd.R_base ho0) hb); have n1_ := Aside0.mk (Kd.R_lower (Kd.R_new' ho0 (Kd.R_lt (by (with_reducible repeat (first | apply Kd.R_alloc | apply Kd.R_drewN | apply Kd.R_drew)); exact HO279.out))) (below_size (by repeat (first | (with_reducible first | exact HB.out | apply bX_ | apply bW_ | apply bY_ | refine bS_ ?_ GE251.out | refine bS_ ?_ GE264.out | refine bS_ ?_ GE276.out) | exact HB.out)))); have n2_ := Aside0.mk (blk_below (g := gb251) (o := .cells #[.int .u8 a1_0, .int .i64 a1_1, .int .i64 a1_2, .int .i64 a1_3, .int .i64 a1_4, .int .i64 a1_5, .bool a1_6, .int .i64 a1_7] 23 (0, 0)) (by (with_reducible repeat (first | refine bN_ ?_ _ | refine bD_ ?_ | refine bA_ ?_ _)); exact BK251.out) hb); have n3_ := Aside0.mk (blk_below (g := gb264) (o := .cells #[.int .u8 t254, .int .i64 t255, .int .i64 t256, .int .i64 t257, .int .i64 t258, .int .i64 t259, .bool t260, .int .i64 t261] 23 (0, 0)) (by (with_reducible repeat (first | refine bN_ ?_ _ | refine bD_ ?_ | refine bA_ ?_ _)); exact BK264.out) hb); have n4_ := Aside0.mk (blk_below (g := gb276) (o := .cells #[.int .u8 t266, .int .i64 t267, .int .i64 t268, .int .i64 t269, .int .i64 t270, .int .i64 t271, .bool t272, .int .i64 t273] 23 (0, 0)) (by (with_reducible repeat (first | refine bN_ ?_ _ | refine bD_ ?_ | refine bA_ ?_ _)); exact BK276.out) hb); have n5_ := Aside0.mk (below_step (by repeat (first | (with_reducible first | exact HB.out | apply bX_ | apply bW_ | apply bY_ | refine bS_ ?_ GE251.out | refine bS_ ?_ GE264.out | refine bS_ ?_ GE276.out) | exact HB.out)) hb); clear HO279; clear BK251; clear BK264; clear BK276; clear HB; have HO279 := n0_; have HO284 := n1_; have BK251 := n2_; have BK264 := n3_; have BK276 := n4_; have HB := n5_; clear n0_ n1_ n2_ n3_ n4_ n5_; (try clear hb); (try clear hb2); (try clear hk); (try clear hi); (try clear ho0)))
    (try simp only [Act.put, List.setIfInBounds_toArray, List.set_cons_zero, List.set_cons_succ])
    go_cut [92] (fun v92 wc => ∃ (kq : Nat) (x92_13 : Bool), v92 = .bool x92_13 ∧ Aside0 (lTl.j0 kq a0 a4 x92_13 a1_0 a1_1 a1_2 a1_3 a1_4 a1_5 a1_6 a1_7 = some r) ∧ Aside0 (kq ≤ k) ∧ Aside0 (wc.heap[gb251]? = some (.cells #[.int .u8 a1_0, .int .i64 a1_1, .int .i64 a1_2, .int .i64 a1_3, .int .i64 a1_4, .int .i64 a1_5, .bool a1_6, .int .i64 a1_7] 23 (0, 0))) ∧ Aside0 (wc.heap[gb264]? = some (.cells #[.int .u8 t254, .int .i64 t255, .int .i64 t256, .int .i64 t257, .int .i64 t258, .int .i64 t259, .bool t260, .int .i64 t261] 23 (0, 0))) ∧ Aside0 (wc.heap[gb276]? = some (.cells #[.int .u8 t266, .int .i64 t267, .int .i64 t268, .int .i64 t269, .int .i64 t270, .int .i64 t271, .bool t272, .int .i64 t273] 23 (0, 0))) ∧ Aside0 (Below w.heap.size w wc))
    case first =>
      have H := HC14.out
      clear HC14
      by_cases c29 : t253 = t265
      · rw [if_pos c29] at H
        have c29b0 : (t253 == t265) = true := beq_iff_eq.mpr c29
        have c29b1 : (t253 != t265) = false := bne_eq_false_iff_eq.mpr c29
        clear c29
        (first | rw [c29b0] | (simp only [i64_w, i32_w]; rw [c29b0]) | skip)
        by_cases c30 : (!(t254 == t266) || (!(t255 == t267) || (!(t256 == t268) || (!(t257 == t269) || (!(t258 == t270) || (!(t259 == t271) || (!(t260 == t272) || (!(t261 == t273))))))))) = true
        · rw [if_pos c30] at H
          have c30b0 : (!(t254 == t266) || (!(t255 == t267) || (!(t256 == t268) || (!(t257 == t269) || (!(t258 == t270) || (!(t259 == t271) || (!(t260 == t272) || (!(t261 == t273))))))))) = true := c30
          clear c30
          have H' := Aside0.mk H
          clear H
          have hnb31 := NB264_251.out
          have hnc31 := NB251_264.out
          have hnb32 := NB264_276.out
          have hnc32 := NB276_264.out
          have hcz33_0 : w28.cell? ⟨gb264, 0, none⟩ = some (.int .u8 t254) := (bC_ BK264.out 0).trans rfl
          have hcz33_1 : w28.cell? ⟨gb264, 1, none⟩ = some (.int .i64 t255) := (bC_ BK264.out 1).trans rfl
          have hcz33_2 : w28.cell? ⟨gb264, 2, none⟩ = some (.int .i64 t256) := (bC_ BK264.out 2).trans rfl
          have hcz33_3 : w28.cell? ⟨gb264, 3, none⟩ = some (.int .i64 t257) := (bC_ BK264.out 3).trans rfl
          have hcz33_4 : w28.cell? ⟨gb264, 4, none⟩ = some (.int .i64 t258) := (bC_ BK264.out 4).trans rfl
          have hcz33_5 : w28.cell? ⟨gb264, 5, none⟩ = some (.int .i64 t259) := (bC_ BK264.out 5).trans rfl
          have hcz33_6 : w28.cell? ⟨gb264, 6, none⟩ = some (.bool t260) := (bC_ BK264.out 6).trans rfl
          have hcz33_7 : w28.cell? ⟨gb264, 7, none⟩ = some (.int .i64 t261) := (bC_ BK264.out 7).trans rfl
          have hfz33_0 := bF_ BK264.out 0
          have hfz33_1 := bF_ BK264.out 1
          have hfz33_2 := bF_ BK264.out 2
          have hfz33_3 := bF_ BK264.out 3
          have hfz33_4 := bF_ BK264.out 4
          have hfz33_5 := bF_ BK264.out 5
          have hfz33_6 := bF_ BK264.out 6
          have hfz33_7 := bF_ BK264.out 7
          have hnb34 := NB276_251.out
          have hnc34 := NB251_276.out
          have hcz35_0 : w28.cell? ⟨gb276, 0, none⟩ = some (.int .u8 t266) := (bC_ BK276.out 0).trans rfl
          have hcz35_1 : w28.cell? ⟨gb276, 1, none⟩ = some (.int .i64 t267) := (bC_ BK276.out 1).trans rfl
          have hcz35_2 : w28.cell? ⟨gb276, 2, none⟩ = some (.int .i64 t268) := (bC_ BK276.out 2).trans rfl
          have hcz35_3 : w28.cell? ⟨gb276, 3, none⟩ = some (.int .i64 t269) := (bC_ BK276.out 3).trans rfl
          have hcz35_4 : w28.cell? ⟨gb276, 4, none⟩ = some (.int .i64 t270) := (bC_ BK276.out 4).trans rfl
          have hcz35_5 : w28.cell? ⟨gb276, 5, none⟩ = some (.int .i64 t271) := (bC_ BK276.out 5).trans rfl
          have hcz35_6 : w28.cell? ⟨gb276, 6, none⟩ = some (.bool t272) := (bC_ BK276.out 6).trans rfl
          have hcz35_7 : w28.cell? ⟨gb276, 7, none⟩ = some (.int .i64 t273) := (bC_ BK276.out 7).trans rfl
          have hfz35_0 := bF_ BK276.out 0
          have hfz35_1 := bF_ BK276.out 1
          have hfz35_2 := bF_ BK276.out 2
          have hfz35_3 := bF_ BK276.out 3
          have hfz35_4 := bF_ BK276.out 4
          have hfz35_5 := bF_ BK276.out 5
          have hfz35_6 := bF_ BK276.out 6
          have hfz35_7 := bF_ BK276.out 7
          go_wp2
          go_meet
          case rel => exact ⟨_, (true), (by first | rfl | (simp; done) | (simp [*]; done)), H', ⟨by first | omega | exact Nat.le_refl _⟩, ⟨by (with_reducible repeat (first | refine bN_ ?_ _ | refine bD_ ?_ | refine bA_ ?_ _)); exact BK251.out⟩, ⟨by (with_reducible repeat (first | refine bN_ ?_ _ | refine bD_ ?_ | refine bA_ ?_ _)); exact BK264.out⟩, ⟨by (with_reducible repeat (first | refine bN_ ?_ _ | refine bD_ ?_ | refine bA_ ?_ _)); exact BK276.out⟩, ⟨by repeat (first | (with_reducible first | exact HB.out | apply bX_ | apply bW_ | apply bY_ | refine bS_ ?_ GE251.out | refine bS_ ?_ GE264.out | refine bS_ ?_ GE276.out) | exact HB.out)⟩⟩
        · rw [if_neg c30] at H
          have c30b0 : (!(t254 == t266) || (!(t255 == t267) || (!(t256 == t268) || (!(t257 == t269) || (!(t258 == t270) || (!(t259 == t271) || (!(t260 == t272) || (!(t261 == t273))))))))) = false := by simpa using c30
          clear c30
          by_cases c36 : t262 = t274
          · rw [if_pos c36] at H
            have c36b0 : (t262 == t274) = true := beq_iff_eq.mpr c36
            have c36b1 : (t262 != t274) = false := bne_eq_false_iff_eq.mpr c36
            clear c36
            by_cases c37 : t263 = t275
            · rw [if_pos c37] at H
              have c37b0 : (t263 == t275) = true := beq_iff_eq.mpr c37
              have c37b1 : (t263 != t275) = false := bne_eq_false_iff_eq.mpr c37
              clear c37
              replace H := Option.bind_eq_some_iff.mp H
              obtain ⟨t287, A380, H⟩ := H
              replace H : (if t287 = true then (if t280 = t285 then (lTl.j0 k a0 a4 (t281 != t286) a1_0 a1_1 a1_2 a1_3 a1_4 a1_5 a1_6 a1_7) else (lTl.j0 k a0 a4 true a1_0 a1_1 a1_2 a1_3 a1_4 a1_5 a1_6 a1_7)) else (lTl.j0 k a0 a4 true a1_0 a1_1 a1_2 a1_3 a1_4 a1_5 a1_6 a1_7)) = some r := H
              have A38 := Aside0.mk A380
              clear A380
              by_cases c39 : t287 = true
              · subst c39
                have H1 : (if t280 = t285 then (lTl.j0 k a0 a4 (t281 != t286) a1_0 a1_1 a1_2 a1_3 a1_4 a1_5 a1_6 a1_7) else (lTl.j0 k a0 a4 true a1_0 a1_1 a1_2 a1_3 a1_4 a1_5 a1_6 a1_7)) = some r := by rw [if_pos rfl] at H; exact H
                clear H
                have H := H1
                clear H1
                by_cases c40 : t280 = t285
                · rw [if_pos c40] at H
                  have c40b0 : (t280 == t285) = true := beq_iff_eq.mpr c40
                  have c40b1 : (t280 != t285) = false := bne_eq_false_iff_eq.mpr c40
                  clear c40
                  have H' := Aside0.mk H
                  clear H
                  have hnb41 := NB264_251.out
                  have hnc41 := NB251_264.out
                  have hnb42 := NB264_276.out
                  have hnc42 := NB276_264.out
                  have hcz43_0 : w28.cell? ⟨gb264, 0, none⟩ = some (.int .u8 t254) := (bC_ BK264.out 0).trans rfl
                  have hcz43_1 : w28.cell? ⟨gb264, 1, none⟩ = some (.int .i64 t255) := (bC_ BK264.out 1).trans rfl
                  have hcz43_2 : w28.cell? ⟨gb264, 2, none⟩ = some (.int .i64 t256) := (bC_ BK264.out 2).trans rfl
                  have hcz43_3 : w28.cell? ⟨gb264, 3, none⟩ = some (.int .i64 t257) := (bC_ BK264.out 3).trans rfl
                  have hcz43_4 : w28.cell? ⟨gb264, 4, none⟩ = some (.int .i64 t258) := (bC_ BK264.out 4).trans rfl
                  have hcz43_5 : w28.cell? ⟨gb264, 5, none⟩ = some (.int .i64 t259) := (bC_ BK264.out 5).trans rfl
                  have hcz43_6 : w28.cell? ⟨gb264, 6, none⟩ = some (.bool t260) := (bC_ BK264.out 6).trans rfl
                  have hcz43_7 : w28.cell? ⟨gb264, 7, none⟩ = some (.int .i64 t261) := (bC_ BK264.out 7).trans rfl
                  have hfz43_0 := bF_ BK264.out 0
                  have hfz43_1 := bF_ BK264.out 1
                  have hfz43_2 := bF_ BK264.out 2
                  have hfz43_3 := bF_ BK264.out 3
                  have hfz43_4 := bF_ BK264.out 4
                  have hfz43_5 := bF_ BK264.out 5
                  have hfz43_6 := bF_ BK264.out 6
                  have hfz43_7 := bF_ BK264.out 7
                  have hnb44 := NB276_251.out
                  have hnc44 := NB251_276.out
                  have hcz45_0 : w28.cell? ⟨gb276, 0, none⟩ = some (.int .u8 t266) := (bC_ BK276.out 0).trans rfl
                  have hcz45_1 : w28.cell? ⟨gb276, 1, none⟩ = some (.int .i64 t267) := (bC_ BK276.out 1).trans rfl
                  have hcz45_2 : w28.cell? ⟨gb276, 2, none⟩ = some (.int .i64 t268) := (bC_ BK276.out 2).trans rfl
                  have hcz45_3 : w28.cell? ⟨gb276, 3, none⟩ = some (.int .i64 t269) := (bC_ BK276.out 3).trans rfl
                  have hcz45_4 : w28.cell? ⟨gb276, 4, none⟩ = some (.int .i64 t270) := (bC_ BK276.out 4).trans rfl
                  have hcz45_5 : w28.cell? ⟨gb276, 5, none⟩ = some (.int .i64 t271) := (bC_ BK276.out 5).trans rfl
                  have hcz45_6 : w28.cell? ⟨gb276, 6, none⟩ = some (.bool t272) := (bC_ BK276.out 6).trans rfl
                  have hcz45_7 : w28.cell? ⟨gb276, 7, none⟩ = some (.int .i64 t273) := (bC_ BK276.out 7).trans rfl
                  have hfz45_0 := bF_ BK276.out 0
                  have hfz45_1 := bF_ BK276.out 1
                  have hfz45_2 := bF_ BK276.out 2
                  have hfz45_3 := bF_ BK276.out 3
                  have hfz45_4 := bF_ BK276.out 4
                  have hfz45_5 := bF_ BK276.out 5
                  have hfz45_6 := bF_ BK276.out 6
                  have hfz45_7 := bF_ BK276.out 7
                  obtain ⟨Ao46, co46, eo46⟩ := Kd.R_slice HO279.out
                  subst eo46
                  obtain ⟨Ao47, co47, eo47⟩ := Kd.R_slice HO284.out
                  subst eo47
                  go_wp2_with (first | (go_at_call 14; (with_reducible refine (l8_same.calls _ _ t277 _ _ t282 true _ ?side1 ?side2 ?side3 ?side4 A38.out).mono ?_); (case side1 => repeat (first | exact (Kd.R_reads' HO279.out).2.2 | (with_reducible refine Kd.C_alloc ?_ _) | (with_reducible refine Kd.C_drewN ?_ _) | (with_reducible refine Kd.C_drew ?_))); (case side2 => exact (Kd.R_reads' HO279.out).2.1); (case side3 => repeat (first | exact (Kd.R_reads' HO284.out).2.2 | (with_reducible refine Kd.C_alloc ?_ _) | (with_reducible refine Kd.C_drewN ?_ _) | (with_reducible refine Kd.C_drew ?_))); (case side4 => exact (Kd.R_reads' HO284.out).2.1); rintro e w' ⟨rfl, ⟨nd, rfl⟩⟩))
                  go_meet
                  case rel => exact ⟨_, ((t281 != t286)), (by first | rfl | (simp; done) | (simp [*]; done)), H', ⟨by first | omega | exact Nat.le_refl _⟩, ⟨by (with_reducible repeat (first | refine bN_ ?_ _ | refine bD_ ?_ | refine bA_ ?_ _)); exact BK251.out⟩, ⟨by (with_reducible repeat (first | refine bN_ ?_ _ | refine bD_ ?_ | refine bA_ ?_ _)); exact BK264.out⟩, ⟨by (with_reducible repeat (first | refine bN_ ?_ _ | refine bD_ ?_ | refine bA_ ?_ _)); exact BK276.out⟩, ⟨by repeat (first | (with_reducible first | exact HB.out | apply bX_ | apply bW_ | apply bY_ | refine bS_ ?_ GE251.out | refine bS_ ?_ GE264.out | refine bS_ ?_ GE276.out) | exact HB.out)⟩⟩
                · rw [if_neg c40] at H
                  have c40b0 : (t280 == t285) = false := beq_eq_false_iff_ne.mpr c40
                  have c40b1 : (t280 != t285) = true := bne_iff_ne.mpr c40
                  have H' := Aside0.mk H
                  clear H
                  have hnb48 := NB264_251.out
                  have hnc48 := NB251_264.out
                  have hnb49 := NB264_276.out
                  have hnc49 := NB276_264.out
                  have hcz50_0 : w28.cell? ⟨gb264, 0, none⟩ = some (.int .u8 t254) := (bC_ BK264.out 0).trans rfl
                  have hcz50_1 : w28.cell? ⟨gb264, 1, none⟩ = some (.int .i64 t255) := (bC_ BK264.out 1).trans rfl
                  have hcz50_2 : w28.cell? ⟨gb264, 2, none⟩ = some (.int .i64 t256) := (bC_ BK264.out 2).trans rfl
                  have hcz50_3 : w28.cell? ⟨gb264, 3, none⟩ = some (.int .i64 t257) := (bC_ BK264.out 3).trans rfl
                  have hcz50_4 : w28.cell? ⟨gb264, 4, none⟩ = some (.int .i64 t258) := (bC_ BK264.out 4).trans rfl
                  have hcz50_5 : w28.cell? ⟨gb264, 5, none⟩ = some (.int .i64 t259) := (bC_ BK264.out 5).trans rfl
                  have hcz50_6 : w28.cell? ⟨gb264, 6, none⟩ = some (.bool t260) := (bC_ BK264.out 6).trans rfl
                  have hcz50_7 : w28.cell? ⟨gb264, 7, none⟩ = some (.int .i64 t261) := (bC_ BK264.out 7).trans rfl
                  have hfz50_0 := bF_ BK264.out 0
                  have hfz50_1 := bF_ BK264.out 1
                  have hfz50_2 := bF_ BK264.out 2
                  have hfz50_3 := bF_ BK264.out 3
                  have hfz50_4 := bF_ BK264.out 4
                  have hfz50_5 := bF_ BK264.out 5
                  have hfz50_6 := bF_ BK264.out 6
                  have hfz50_7 := bF_ BK264.out 7
                  have hnb51 := NB276_251.out
                  have hnc51 := NB251_276.out
                  have hcz52_0 : w28.cell? ⟨gb276, 0, none⟩ = some (.int .u8 t266) := (bC_ BK276.out 0).trans rfl
                  have hcz52_1 : w28.cell? ⟨gb276, 1, none⟩ = some (.int .i64 t267) := (bC_ BK276.out 1).trans rfl
                  have hcz52_2 : w28.cell? ⟨gb276, 2, none⟩ = some (.int .i64 t268) := (bC_ BK276.out 2).trans rfl
                  have hcz52_3 : w28.cell? ⟨gb276, 3, none⟩ = some (.int .i64 t269) := (bC_ BK276.out 3).trans rfl
                  have hcz52_4 : w28.cell? ⟨gb276, 4, none⟩ = some (.int .i64 t270) := (bC_ BK276.out 4).trans rfl
                  have hcz52_5 : w28.cell? ⟨gb276, 5, none⟩ = some (.int .i64 t271) := (bC_ BK276.out 5).trans rfl
                  have hcz52_6 : w28.cell? ⟨gb276, 6, none⟩ = some (.bool t272) := (bC_ BK276.out 6).trans rfl
                  have hcz52_7 : w28.cell? ⟨gb276, 7, none⟩ = some (.int .i64 t273) := (bC_ BK276.out 7).trans rfl
                  have hfz52_0 := bF_ BK276.out 0
                  have hfz52_1 := bF_ BK276.out 1
                  have hfz52_2 := bF_ BK276.out 2
                  have hfz52_3 := bF_ BK276.out 3
                  have hfz52_4 := bF_ BK276.out 4
                  have hfz52_5 := bF_ BK276.out 5
                  have hfz52_6 := bF_ BK276.out 6
                  have hfz52_7 := bF_ BK276.out 7
                  obtain ⟨Ao53, co53, eo53⟩ := Kd.R_slice HO279.out
                  subst eo53
                  obtain ⟨Ao54, co54, eo54⟩ := Kd.R_slice HO284.out
                  subst eo54
                  go_wp2_with (first | (go_at_call 14; (with_reducible refine (l8_same.calls _ _ t277 _ _ t282 true _ ?side1 ?side2 ?side3 ?side4 A38.out).mono ?_); (case side1 => repeat (first | exact (Kd.R_reads' HO279.out).2.2 | (with_reducible refine Kd.C_alloc ?_ _) | (with_reducible refine Kd.C_drewN ?_ _) | (with_reducible refine Kd.C_drew ?_))); (case side2 => exact (Kd.R_reads' HO279.out).2.1); (case side3 => repeat (first | exact (Kd.R_reads' HO284.out).2.2 | (with_reducible refine Kd.C_alloc ?_ _) | (with_reducible refine Kd.C_drewN ?_ _) | (with_reducible refine Kd.C_drew ?_))); (case side4 => exact (Kd.R_reads' HO284.out).2.1); rintro e w' ⟨rfl, ⟨nd, rfl⟩⟩))
                  go_meet
                  case rel => exact ⟨_, (true), (by first | rfl | (simp; done) | (simp [*]; done)), H', ⟨by first | omega | exact Nat.le_refl _⟩, ⟨by (with_reducible repeat (first | refine bN_ ?_ _ | refine bD_ ?_ | refine bA_ ?_ _)); exact BK251.out⟩, ⟨by (with_reducible repeat (first | refine bN_ ?_ _ | refine bD_ ?_ | refine bA_ ?_ _)); exact BK264.out⟩, ⟨by (with_reducible repeat (first | refine bN_ ?_ _ | refine bD_ ?_ | refine bA_ ?_ _)); exact BK276.out⟩, ⟨by repeat (first | (with_reducible first | exact HB.out | apply bX_ | apply bW_ | apply bY_ | refine bS_ ?_ GE251.out | refine bS_ ?_ GE264.out | refine bS_ ?_ GE276.out) | exact HB.out)⟩⟩
              · replace c39 := Bool.eq_false_iff.mpr c39
                subst c39
                have H1 : (lTl.j0 k a0 a4 true a1_0 a1_1 a1_2 a1_3 a1_4 a1_5 a1_6 a1_7) = some r := by rw [if_neg (show ¬ (false = true) by decide)] at H; exact H
                clear H
                have H := H1
                clear H1
                have H' := Aside0.mk H
                clear H
                have hnb55 := NB264_251.out
                have hnc55 := NB251_264.out
                have hnb56 := NB264_276.out
                have hnc56 := NB276_264.out
                have hcz57_0 : w28.cell? ⟨gb264, 0, none⟩ = some (.int .u8 t254) := (bC_ BK264.out 0).trans rfl
                have hcz57_1 : w28.cell? ⟨gb264, 1, none⟩ = some (.int .i64 t255) := (bC_ BK264.out 1).trans rfl
                have hcz57_2 : w28.cell? ⟨gb264, 2, none⟩ = some (.int .i64 t256) := (bC_ BK264.out 2).trans rfl
                have hcz57_3 : w28.cell? ⟨gb264, 3, none⟩ = some (.int .i64 t257) := (bC_ BK264.out 3).trans rfl
                have hcz57_4 : w28.cell? ⟨gb264, 4, none⟩ = some (.int .i64 t258) := (bC_ BK264.out 4).trans rfl
                have hcz57_5 : w28.cell? ⟨gb264, 5, none⟩ = some (.int .i64 t259) := (bC_ BK264.out 5).trans rfl
                have hcz57_6 : w28.cell? ⟨gb264, 6, none⟩ = some (.bool t260) := (bC_ BK264.out 6).trans rfl
                have hcz57_7 : w28.cell? ⟨gb264, 7, none⟩ = some (.int .i64 t261) := (bC_ BK264.out 7).trans rfl
                have hfz57_0 := bF_ BK264.out 0
                have hfz57_1 := bF_ BK264.out 1
                have hfz57_2 := bF_ BK264.out 2
                have hfz57_3 := bF_ BK264.out 3
                have hfz57_4 := bF_ BK264.out 4
                have hfz57_5 := bF_ BK264.out 5
                have hfz57_6 := bF_ BK264.out 6
                have hfz57_7 := bF_ BK264.out 7
                have hnb58 := NB276_251.out
                have hnc58 := NB251_276.out
                have hcz59_0 : w28.cell? ⟨gb276, 0, none⟩ = some (.int .u8 t266) := (bC_ BK276.out 0).trans rfl
                have hcz59_1 : w28.cell? ⟨gb276, 1, none⟩ = some (.int .i64 t267) := (bC_ BK276.out 1).trans rfl
                have hcz59_2 : w28.cell? ⟨gb276, 2, none⟩ = some (.int .i64 t268) := (bC_ BK276.out 2).trans rfl
                have hcz59_3 : w28.cell? ⟨gb276, 3, none⟩ = some (.int .i64 t269) := (bC_ BK276.out 3).trans rfl
                have hcz59_4 : w28.cell? ⟨gb276, 4, none⟩ = some (.int .i64 t270) := (bC_ BK276.out 4).trans rfl
                have hcz59_5 : w28.cell? ⟨gb276, 5, none⟩ = some (.int .i64 t271) := (bC_ BK276.out 5).trans rfl
                have hcz59_6 : w28.cell? ⟨gb276, 6, none⟩ = some (.bool t272) := (bC_ BK276.out 6).trans rfl
                have hcz59_7 : w28.cell? ⟨gb276, 7, none⟩ = some (.int .i64 t273) := (bC_ BK276.out 7).trans rfl
                have hfz59_0 := bF_ BK276.out 0
                have hfz59_1 := bF_ BK276.out 1
                have hfz59_2 := bF_ BK276.out 2
                have hfz59_3 := bF_ BK276.out 3
                have hfz59_4 := bF_ BK276.out 4
                have hfz59_5 := bF_ BK276.out 5
                have hfz59_6 := bF_ BK276.out 6
                have hfz59_7 := bF_ BK276.out 7
                obtain ⟨Ao60, co60, eo60⟩ := Kd.R_slice HO279.out
                subst eo60
                obtain ⟨Ao61, co61, eo61⟩ := Kd.R_slice HO284.out
                subst eo61
                go_wp2_with (first | (go_at_call 14; (with_reducible refine (l8_same.calls _ _ t277 _ _ t282 false _ ?side1 ?side2 ?side3 ?side4 A38.out).mono ?_); (case side1 => repeat (first | exact (Kd.R_reads' HO279.out).2.2 | (with_reducible refine Kd.C_alloc ?_ _) | (with_reducible refine Kd.C_drewN ?_ _) | (with_reducible refine Kd.C_drew ?_))); (case side2 => exact (Kd.R_reads' HO279.out).2.1); (case side3 => repeat (first | exact (Kd.R_reads' HO284.out).2.2 | (with_reducible refine Kd.C_alloc ?_ _) | (with_reducible refine Kd.C_drewN ?_ _) | (with_reducible refine Kd.C_drew ?_))); (case side4 => exact (Kd.R_reads' HO284.out).2.1); rintro e w' ⟨rfl, ⟨nd, rfl⟩⟩))
                go_meet
                case rel => exact ⟨_, (true), (by first | rfl | (simp; done) | (simp [*]; done)), H', ⟨by first | omega | exact Nat.le_refl _⟩, ⟨by (with_reducible repeat (first | refine bN_ ?_ _ | refine bD_ ?_ | refine bA_ ?_ _)); exact BK251.out⟩, ⟨by (with_reducible repeat (first | refine bN_ ?_ _ | refine bD_ ?_ | refine bA_ ?_ _)); exact BK264.out⟩, ⟨by (with_reducible repeat (first | refine bN_ ?_ _ | refine bD_ ?_ | refine bA_ ?_ _)); exact BK276.out⟩, ⟨by repeat (first | (with_reducible first | exact HB.out | apply bX_ | apply bW_ | apply bY_ | refine bS_ ?_ GE251.out | refine bS_ ?_ GE264.out | refine bS_ ?_ GE276.out) | exact HB.out)⟩⟩
            · rw [if_neg c37] at H
              have c37b0 : (t263 == t275) = false := beq_eq_false_iff_ne.mpr c37
              have c37b1 : (t263 != t275) = true := bne_iff_ne.mpr c37
              have H' := Aside0.mk H
              clear H
              have hnb62 := NB264_251.out
              have hnc62 := NB251_264.out
              have hnb63 := NB264_276.out
              have hnc63 := NB276_264.out
              have hcz64_0 : w28.cell? ⟨gb264, 0, none⟩ = some (.int .u8 t254) := (bC_ BK264.out 0).trans rfl
              have hcz64_1 : w28.cell? ⟨gb264, 1, none⟩ = some (.int .i64 t255) := (bC_ BK264.out 1).trans rfl
              have hcz64_2 : w28.cell? ⟨gb264, 2, none⟩ = some (.int .i64 t256) := (bC_ BK264.out 2).trans rfl
              have hcz64_3 : w28.cell? ⟨gb264, 3, none⟩ = some (.int .i64 t257) := (bC_ BK264.out 3).trans rfl
              have hcz64_4 : w28.cell? ⟨gb264, 4, none⟩ = some (.int .i64 t258) := (bC_ BK264.out 4).trans rfl
              have hcz64_5 : w28.cell? ⟨gb264, 5, none⟩ = some (.int .i64 t259) := (bC_ BK264.out 5).trans rfl
              have hcz64_6 : w28.cell? ⟨gb264, 6, none⟩ = some (.bool t260) := (bC_ BK264.out 6).trans rfl
              have hcz64_7 : w28.cell? ⟨gb264, 7, none⟩ = some (.int .i64 t261) := (bC_ BK264.out 7).trans rfl
              have hfz64_0 := bF_ BK264.out 0
              have hfz64_1 := bF_ BK264.out 1
              have hfz64_2 := bF_ BK264.out 2
              have hfz64_3 := bF_ BK264.out 3
              have hfz64_4 := bF_ BK264.out 4
              have hfz64_5 := bF_ BK264.out 5
              have hfz64_6 := bF_ BK264.out 6
              have hfz64_7 := bF_ BK264.out 7
              have hnb65 := NB276_251.out
              have hnc65 := NB251_276.out
              have hcz66_0 : w28.cell? ⟨gb276, 0, none⟩ = some (.int .u8 t266) := (bC_ BK276.out 0).trans rfl
              have hcz66_1 : w28.cell? ⟨gb276, 1, none⟩ = some (.int .i64 t267) := (bC_ BK276.out 1).trans rfl
              have hcz66_2 : w28.cell? ⟨gb276, 2, none⟩ = some (.int .i64 t268) := (bC_ BK276.out 2).trans rfl
              have hcz66_3 : w28.cell? ⟨gb276, 3, none⟩ = some (.int .i64 t269) := (bC_ BK276.out 3).trans rfl
              have hcz66_4 : w28.cell? ⟨gb276, 4, none⟩ = some (.int .i64 t270) := (bC_ BK276.out 4).trans rfl
              have hcz66_5 : w28.cell? ⟨gb276, 5, none⟩ = some (.int .i64 t271) := (bC_ BK276.out 5).trans rfl
              have hcz66_6 : w28.cell? ⟨gb276, 6, none⟩ = some (.bool t272) := (bC_ BK276.out 6).trans rfl
              have hcz66_7 : w28.cell? ⟨gb276, 7, none⟩ = some (.int .i64 t273) := (bC_ BK276.out 7).trans rfl
              have hfz66_0 := bF_ BK276.out 0
              have hfz66_1 := bF_ BK276.out 1
              have hfz66_2 := bF_ BK276.out 2
              have hfz66_3 := bF_ BK276.out 3
              have hfz66_4 := bF_ BK276.out 4
              have hfz66_5 := bF_ BK276.out 5
              have hfz66_6 := bF_ BK276.out 6
              have hfz66_7 := bF_ BK276.out 7
              go_wp2
              go_meet
              case rel => exact ⟨_, (true), (by first | rfl | (simp; done) | (simp [*]; done)), H', ⟨by first | omega | exact Nat.le_refl _⟩, ⟨by (with_reducible repeat (first | refine bN_ ?_ _ | refine bD_ ?_ | refine bA_ ?_ _)); exact BK251.out⟩, ⟨by (with_reducible repeat (first | refine bN_ ?_ _ | refine bD_ ?_ | refine bA_ ?_ _)); exact BK264.out⟩, ⟨by (with_reducible repeat (first | refine bN_ ?_ _ | refine bD_ ?_ | refine bA_ ?_ _)); exact BK276.out⟩, ⟨by repeat (first | (with_reducible first | exact HB.out | apply bX_ | apply bW_ | apply bY_ | refine bS_ ?_ GE251.out | refine bS_ ?_ GE264.out | refine bS_ ?_ GE276.out) | exact HB.out)⟩⟩
          · rw [if_neg c36] at H
            have c36b0 : (t262 == t274) = false := beq_eq_false_iff_ne.mpr c36
            have c36b1 : (t262 != t274) = true := bne_iff_ne.mpr c36
            have H' := Aside0.mk H
            clear H
            have hnb67 := NB264_251.out
            have hnc67 := NB251_264.out
            have hnb68 := NB264_276.out
            have hnc68 := NB276_264.out
            have hcz69_0 : w28.cell? ⟨gb264, 0, none⟩ = some (.int .u8 t254) := (bC_ BK264.out 0).trans rfl
            have hcz69_1 : w28.cell? ⟨gb264, 1, none⟩ = some (.int .i64 t255) := (bC_ BK264.out 1).trans rfl
            have hcz69_2 : w28.cell? ⟨gb264, 2, none⟩ = some (.int .i64 t256) := (bC_ BK264.out 2).trans rfl
            have hcz69_3 : w28.cell? ⟨gb264, 3, none⟩ = some (.int .i64 t257) := (bC_ BK264.out 3).trans rfl
            have hcz69_4 : w28.cell? ⟨gb264, 4, none⟩ = some (.int .i64 t258) := (bC_ BK264.out 4).trans rfl
            have hcz69_5 : w28.cell? ⟨gb264, 5, none⟩ = some (.int .i64 t259) := (bC_ BK264.out 5).trans rfl
            have hcz69_6 : w28.cell? ⟨gb264, 6, none⟩ = some (.bool t260) := (bC_ BK264.out 6).trans rfl
            have hcz69_7 : w28.cell? ⟨gb264, 7, none⟩ = some (.int .i64 t261) := (bC_ BK264.out 7).trans rfl
            have hfz69_0 := bF_ BK264.out 0
            have hfz69_1 := bF_ BK264.out 1
            have hfz69_2 := bF_ BK264.out 2
            have hfz69_3 := bF_ BK264.out 3
            have hfz69_4 := bF_ BK264.out 4
            have hfz69_5 := bF_ BK264.out 5
            have hfz69_6 := bF_ BK264.out 6
            have hfz69_7 := bF_ BK264.out 7
            have hnb70 := NB276_251.out
            have hnc70 := NB251_276.out
            have hcz71_0 : w28.cell? ⟨gb276, 0, none⟩ = some (.int .u8 t266) := (bC_ BK276.out 0).trans rfl
            have hcz71_1 : w28.cell? ⟨gb276, 1, none⟩ = some (.int .i64 t267) := (bC_ BK276.out 1).trans rfl
            have hcz71_2 : w28.cell? ⟨gb276, 2, none⟩ = some (.int .i64 t268) := (bC_ BK276.out 2).trans rfl
            have hcz71_3 : w28.cell? ⟨gb276, 3, none⟩ = some (.int .i64 t269) := (bC_ BK276.out 3).trans rfl
            have hcz71_4 : w28.cell? ⟨gb276, 4, none⟩ = some (.int .i64 t270) := (bC_ BK276.out 4).trans rfl
            have hcz71_5 : w28.cell? ⟨gb276, 5, none⟩ = some (.int .i64 t271) := (bC_ BK276.out 5).trans rfl
            have hcz71_6 : w28.cell? ⟨gb276, 6, none⟩ = some (.bool t272) := (bC_ BK276.out 6).trans rfl
            have hcz71_7 : w28.cell? ⟨gb276, 7, none⟩ = some (.int .i64 t273) := (bC_ BK276.out 7).trans rfl
            have hfz71_0 := bF_ BK276.out 0
            have hfz71_1 := bF_ BK276.out 1
            have hfz71_2 := bF_ BK276.out 2
            have hfz71_3 := bF_ BK276.out 3
            have hfz71_4 := bF_ BK276.out 4
            have hfz71_5 := bF_ BK276.out 5
            have hfz71_6 := bF_ BK276.out 6
            have hfz71_7 := bF_ BK276.out 7
            go_wp2
            go_meet
            case rel => exact ⟨_, (true), (by first | rfl | (simp; done) | (simp [*]; done)), H', ⟨by first | omega | exact Nat.le_refl _⟩, ⟨by (with_reducible repeat (first | refine bN_ ?_ _ | refine bD_ ?_ | refine bA_ ?_ _)); exact BK251.out⟩, ⟨by (with_reducible repeat (first | refine bN_ ?_ _ | refine bD_ ?_ | refine bA_ ?_ _)); exact BK264.out⟩, ⟨by (with_reducible repeat (first | refine bN_ ?_ _ | refine bD_ ?_ | refine bA_ ?_ _)); exact BK276.out⟩, ⟨by repeat (first | (with_reducible first | exact HB.out | apply bX_ | apply bW_ | apply bY_ | refine bS_ ?_ GE251.out | refine bS_ ?_ GE264.out | refine bS_ ?_ GE276.out) | exact HB.out)⟩⟩
      · rw [if_neg c29] at H
        have c29b0 : (t253 == t265) = false := beq_eq_false_iff_ne.mpr c29
        have c29b1 : (t253 != t265) = true := bne_iff_ne.mpr c29
        (first | rw [c29b0] | (simp only [i64_w, i32_w]; rw [c29b0]) | skip)
        have H' := Aside0.mk H
        clear H
        go_wp2
        go_meet
        case rel => exact ⟨_, (true), (by first | rfl | (simp; done) | (simp [*]; done)), H', ⟨by first | omega | exact Nat.le_refl _⟩, ⟨by (with_reducible repeat (first | refine bN_ ?_ _ | refine bD_ ?_ | refine bA_ ?_ _)); exact BK251.out⟩, ⟨by (with_reducible repeat (first | refine bN_ ?_ _ | refine bD_ ?_ | refine bA_ ?_ _)); exact BK264.out⟩, ⟨by (with_reducible repeat (first | refine bN_ ?_ _ | refine bD_ ?_ | refine bA_ ?_ _)); exact BK276.out⟩, ⟨by repeat (first | (with_reducible first | exact HB.out | apply bX_ | apply bW_ | apply bY_ | refine bS_ ?_ GE251.out | refine bS_ ?_ GE264.out | refine bS_ ?_ GE276.out) | exact HB.out)⟩⟩
    case rest =>
      clear HC14
      (try clear c1); (try clear c2); (try clear p2); (try clear c3); (try clear c4); (try clear c5); (try clear c6); (try clear c6b0); (try clear c6b1); (try clear c7); (try clear c8); (try clear c9); (try clear c11); (try clear c12); (try clear c13); (try clear c18); (try clear c22); (try clear c23); (try clear c29); (try clear c29b0); (try clear c29b1); (try clear c30); (try clear c30b0); (try clear c31); (try clear c32); (try clear c34); (try clear c36); (try clear c36b0); (try clear c36b1); (try clear c37); (try clear c37b0); (try clear c37b1); (try clear c39); (try clear c40); (try clear c40b0); (try clear c40b1); (try clear c41); (try clear c42); (try clear c44); (try clear c48); (try clear c49); (try clear c51); (try clear c55); (try clear c56); (try clear c58); (try clear c62); (try clear c63); (try clear c65); (try clear c67); (try clear c68); (try clear c70)
      obtain ⟨kq, x92_13, rfl, HA, HJ13, BK251, BK264, BK276, HB⟩ := hcut
      cases kq with
      | zero => exact absurd HA.out (by simp [lTl.j0])
      | succ kj13 =>
        have H := HA.out
        clear HA
        simp only [lTl.j0] at H
        by_cases c72 : x92_13 = true
        · subst c72
          have H1 : (some false) = some r := by rw [if_pos rfl] at H; exact H
          clear H
          have H := H1
          clear H1
          obtain rfl := Option.some.inj H
          go_wp2
          go_ret
          exact ⟨by first | rfl | (simp [errW_none, errW_some] <;> rfl) | (simp [*, errW_none, errW_some] <;> rfl), by repeat (first | (with_reducible first | exact HB.out | apply bX_ | apply bW_ | apply bY_ | refine bS_ ?_ GE251.out | refine bS_ ?_ GE264.out | refine bS_ ?_ GE276.out) | exact HB.out)⟩
        · replace c72 := Bool.eq_false_iff.mpr c72
          subst c72
          have H1 : ((operand_Right.f kj13 a1_0 a1_1 a1_2 a1_3 a1_4 a1_5 a1_6 a1_7).bind fun t288 => ((r8_Right.f kj13 a1_0 a1_1 a1_2 a1_3 a1_4 a1_5 a1_6 a1_7).bind fun t289 => (if (t288 == t289) = true then ((operand_Uses.f a1_0 a1_1 a1_2 a1_3 a1_4 a1_5 a1_6 a1_7).bind fun t290 => ((r8_Uses.f a1_0 a1_1 a1_2 a1_3 a1_4 a1_5 a1_6 a1_7).bind fun t293 => ((l8_ints.f kj13 t290 t293).bind fun t296 => (if t296 = true then ((operand_Reg.f a0).bind fun bt297 => ((r8_Reg.f a0).bind fun bt305 => (if (bt297.1 == bt305.1 && (bt297.2.1 == bt305.2.1 && (bt297.2.2.1 == bt305.2.2.1 && (bt297.2.2.2.1 == bt305.2.2.2.1 && (bt297.2.2.2.2.1 == bt305.2.2.2.2.1 && (bt297.2.2.2.2.2.1 == bt305.2.2.2.2.2.1 && (bt297.2.2.2.2.2.2.1 == bt305.2.2.2.2.2.2.1 && (bt297.2.2.2.2.2.2.2 == bt305.2.2.2.2.2.2.2)))))))) = true then ((operand_Mem.f a0 a4).bind fun bt313 => ((r8_Mem.f a0 a4).bind fun bt321 => (if (bt313.1 == bt321.1 && (bt313.2.1 == bt321.2.1 && (bt313.2.2.1 == bt321.2.2.1 && (bt313.2.2.2.1 == bt321.2.2.2.1 && (bt313.2.2.2.2.1 == bt321.2.2.2.2.1 && (bt313.2.2.2.2.2.1 == bt321.2.2.2.2.2.1 && (bt313.2.2.2.2.2.2.1 == bt321.2.2.2.2.2.2.1 && (bt313.2.2.2.2.2.2.2 == bt321.2.2.2.2.2.2.2)))))))) = true then ((l8_wakes.f).bind fun t329 => (some t329)) else (some false)))) else (some false)))) else (some false))))) else (some false)))) = some r := by rw [if_neg (show ¬ (false = true) by decide)] at H; exact H
          clear H
          have H := H1
          clear H1
          replace H := Option.bind_eq_some_iff.mp H
          obtain ⟨t288, A730, H⟩ := H
          replace H : ((r8_Right.f kj13 a1_0 a1_1 a1_2 a1_3 a1_4 a1_5 a1_6 a1_7).bind fun t289 => (if (t288 == t289) = true then ((operand_Uses.f a1_0 a1_1 a1_2 a1_3 a1_4 a1_5 a1_6 a1_7).bind fun t290 => ((r8_Uses.f a1_0 a1_1 a1_2 a1_3 a1_4 a1_5 a1_6 a1_7).bind fun t293 => ((l8_ints.f kj13 t290 t293).bind fun t296 => (if t296 = true then ((operand_Reg.f a0).bind fun bt297 => ((r8_Reg.f a0).bind fun bt305 => (if (bt297.1 == bt305.1 && (bt297.2.1 == bt305.2.1 && (bt297.2.2.1 == bt305.2.2.1 && (bt297.2.2.2.1 == bt305.2.2.2.1 && (bt297.2.2.2.2.1 == bt305.2.2.2.2.1 && (bt297.2.2.2.2.2.1 == bt305.2.2.2.2.2.1 && (bt297.2.2.2.2.2.2.1 == bt305.2.2.2.2.2.2.1 && (bt297.2.2.2.2.2.2.2 == bt305.2.2.2.2.2.2.2)))))))) = true then ((operand_Mem.f a0 a4).bind fun bt313 => ((r8_Mem.f a0 a4).bind fun bt321 => (if (bt313.1 == bt321.1 && (bt313.2.1 == bt321.2.1 && (bt313.2.2.1 == bt321.2.2.1 && (bt313.2.2.2.1 == bt321.2.2.2.1 && (bt313.2.2.2.2.1 == bt321.2.2.2.2.1 && (bt313.2.2.2.2.2.1 == bt321.2.2.2.2.2.1 && (bt313.2.2.2.2.2.2.1 == bt321.2.2.2.2.2.2.1 && (bt313.2.2.2.2.2.2.2 == bt321.2.2.2.2.2.2.2)))))))) = true then ((l8_wakes.f).bind fun t329 => (some t329)) else (some false)))) else (some false)))) else (some false))))) else (some false))) = some r := H
          have A73 := Aside0.mk A730
          clear A730
          replace H := Option.bind_eq_some_iff.mp H
          obtain ⟨t289, A740, H⟩ := H
          replace H : (if (t288 == t289) = true then ((operand_Uses.f a1_0 a1_1 a1_2 a1_3 a1_4 a1_5 a1_6 a1_7).bind fun t290 => ((r8_Uses.f a1_0 a1_1 a1_2 a1_3 a1_4 a1_5 a1_6 a1_7).bind fun t293 => ((l8_ints.f kj13 t290 t293).bind fun t296 => (if t296 = true then ((operand_Reg.f a0).bind fun bt297 => ((r8_Reg.f a0).bind fun bt305 => (if (bt297.1 == bt305.1 && (bt297.2.1 == bt305.2.1 && (bt297.2.2.1 == bt305.2.2.1 && (bt297.2.2.2.1 == bt305.2.2.2.1 && (bt297.2.2.2.2.1 == bt305.2.2.2.2.1 && (bt297.2.2.2.2.2.1 == bt305.2.2.2.2.2.1 && (bt297.2.2.2.2.2.2.1 == bt305.2.2.2.2.2.2.1 && (bt297.2.2.2.2.2.2.2 == bt305.2.2.2.2.2.2.2)))))))) = true then ((operand_Mem.f a0 a4).bind fun bt313 => ((r8_Mem.f a0 a4).bind fun bt321 => (if (bt313.1 == bt321.1 && (bt313.2.1 == bt321.2.1 && (bt313.2.2.1 == bt321.2.2.1 && (bt313.2.2.2.1 == bt321.2.2.2.1 && (bt313.2.2.2.2.1 == bt321.2.2.2.2.1 && (bt313.2.2.2.2.2.1 == bt321.2.2.2.2.2.1 && (bt313.2.2.2.2.2.2.1 == bt321.2.2.2.2.2.2.1 && (bt313.2.2.2.2.2.2.2 == bt321.2.2.2.2.2.2.2)))))))) = true then ((l8_wakes.f).bind fun t329 => (some t329)) else (some false)))) else (some false)))) else (some false))))) else (some false)) = some r := H
          have A74 := Aside0.mk A740
          clear A740
          by_cases c75 : (t288 == t289) = true
          · rw [if_pos c75] at H
            have c75b0 : (t288 == t289) = true := c75
            (try (have c75b1 : decide (t288 = t289) = true := by simpa using c75))
            (try (have c75b2 : (t288 == t289) = true := by simpa using c75))
            clear c75
            replace H := Option.bind_eq_some_iff.mp H
            obtain ⟨t290, A760, H⟩ := H
            replace H : ((r8_Uses.f a1_0 a1_1 a1_2 a1_3 a1_4 a1_5 a1_6 a1_7).bind fun t293 => ((l8_ints.f kj13 t290 t293).bind fun t296 => (if t296 = true then ((operand_Reg.f a0).bind fun bt297 => ((r8_Reg.f a0).bind fun bt305 => (if (bt297.1 == bt305.1 && (bt297.2.1 == bt305.2.1 && (bt297.2.2.1 == bt305.2.2.1 && (bt297.2.2.2.1 == bt305.2.2.2.1 && (bt297.2.2.2.2.1 == bt305.2.2.2.2.1 && (bt297.2.2.2.2.2.1 == bt305.2.2.2.2.2.1 && (bt297.2.2.2.2.2.2.1 == bt305.2.2.2.2.2.2.1 && (bt297.2.2.2.2.2.2.2 == bt305.2.2.2.2.2.2.2)))))))) = true then ((operand_Mem.f a0 a4).bind fun bt313 => ((r8_Mem.f a0 a4).bind fun bt321 => (if (bt313.1 == bt321.1 && (bt313.2.1 == bt321.2.1 && (bt313.2.2.1 == bt321.2.2.1 && (bt313.2.2.2.1 == bt321.2.2.2.1 && (bt313.2.2.2.2.1 == bt321.2.2.2.2.1 && (bt313.2.2.2.2.2.1 == bt321.2.2.2.2.2.1 && (bt313.2.2.2.2.2.2.1 == bt321.2.2.2.2.2.2.1 && (bt313.2.2.2.2.2.2.2 == bt321.2.2.2.2.2.2.2)))))))) = true then ((l8_wakes.f).bind fun t329 => (some t329)) else (some false)))) else (some false)))) else (some false)))) = some r := H
            have A76 := Aside0.mk A760
            clear A760
            replace H := Option.bind_eq_some_iff.mp H
            obtain ⟨t293, A770, H⟩ := H
            replace H : ((l8_ints.f kj13 t290 t293).bind fun t296 => (if t296 = true then ((operand_Reg.f a0).bind fun bt297 => ((r8_Reg.f a0).bind fun bt305 => (if (bt297.1 == bt305.1 && (bt297.2.1 == bt305.2.1 && (bt297.2.2.1 == bt305.2.2.1 && (bt297.2.2.2.1 == bt305.2.2.2.1 && (bt297.2.2.2.2.1 == bt305.2.2.2.2.1 && (bt297.2.2.2.2.2.1 == bt305.2.2.2.2.2.1 && (bt297.2.2.2.2.2.2.1 == bt305.2.2.2.2.2.2.1 && (bt297.2.2.2.2.2.2.2 == bt305.2.2.2.2.2.2.2)))))))) = true then ((operand_Mem.f a0 a4).bind fun bt313 => ((r8_Mem.f a0 a4).bind fun bt321 => (if (bt313.1 == bt321.1 && (bt313.2.1 == bt321.2.1 && (bt313.2.2.1 == bt321.2.2.1 && (bt313.2.2.2.1 == bt321.2.2.2.1 && (bt313.2.2.2.2.1 == bt321.2.2.2.2.1 && (bt313.2.2.2.2.2.1 == bt321.2.2.2.2.2.1 && (bt313.2.2.2.2.2.2.1 == bt321.2.2.2.2.2.2.1 && (bt313.2.2.2.2.2.2.2 == bt321.2.2.2.2.2.2.2)))))))) = true then ((l8_wakes.f).bind fun t329 => (some t329)) else (some false)))) else (some false)))) else (some false))) = some r := H
            have A77 := Aside0.mk A770
            clear A770
            replace H := Option.bind_eq_some_iff.mp H
            obtain ⟨t296, A780, H⟩ := H
            replace H : (if t296 = true then ((operand_Reg.f a0).bind fun bt297 => ((r8_Reg.f a0).bind fun bt305 => (if (bt297.1 == bt305.1 && (bt297.2.1 == bt305.2.1 && (bt297.2.2.1 == bt305.2.2.1 && (bt297.2.2.2.1 == bt305.2.2.2.1 && (bt297.2.2.2.2.1 == bt305.2.2.2.2.1 && (bt297.2.2.2.2.2.1 == bt305.2.2.2.2.2.1 && (bt297.2.2.2.2.2.2.1 == bt305.2.2.2.2.2.2.1 && (bt297.2.2.2.2.2.2.2 == bt305.2.2.2.2.2.2.2)))))))) = true then ((operand_Mem.f a0 a4).bind fun bt313 => ((r8_Mem.f a0 a4).bind fun bt321 => (if (bt313.1 == bt321.1 && (bt313.2.1 == bt321.2.1 && (bt313.2.2.1 == bt321.2.2.1 && (bt313.2.2.2.1 == bt321.2.2.2.1 && (bt313.2.2.2.2.1 == bt321.2.2.2.2.1 && (bt313.2.2.2.2.2.1 == bt321.2.2.2.2.2.1 && (bt313.2.2.2.2.2.2.1 == bt321.2.2.2.2.2.2.1 && (bt313.2.2.2.2.2.2.2 == bt321.2.2.2.2.2.2.2)))))))) = true then ((l8_wakes.f).bind fun t329 => (some t329)) else (some false)))) else (some false)))) else (some false)) = some r := H
            have A78 := Aside0.mk A780
            clear A780
            by_cases c79 : t296 = true
            · subst c79
              have H1 : ((operand_Reg.f a0).bind fun bt297 => ((r8_Reg.f a0).bind fun bt305 => (if (bt297.1 == bt305.1 && (bt297.2.1 == bt305.2.1 && (bt297.2.2.1 == bt305.2.2.1 && (bt297.2.2.2.1 == bt305.2.2.2.1 && (bt297.2.2.2.2.1 == bt305.2.2.2.2.1 && (bt297.2.2.2.2.2.1 == bt305.2.2.2.2.2.1 && (bt297.2.2.2.2.2.2.1 == bt305.2.2.2.2.2.2.1 && (bt297.2.2.2.2.2.2.2 == bt305.2.2.2.2.2.2.2)))))))) = true then ((operand_Mem.f a0 a4).bind fun bt313 => ((r8_Mem.f a0 a4).bind fun bt321 => (if (bt313.1 == bt321.1 && (bt313.2.1 == bt321.2.1 && (bt313.2.2.1 == bt321.2.2.1 && (bt313.2.2.2.1 == bt321.2.2.2.1 && (bt313.2.2.2.2.1 == bt321.2.2.2.2.1 && (bt313.2.2.2.2.2.1 == bt321.2.2.2.2.2.1 && (bt313.2.2.2.2.2.2.1 == bt321.2.2.2.2.2.2.1 && (bt313.2.2.2.2.2.2.2 == bt321.2.2.2.2.2.2.2)))))))) = true then ((l8_wakes.f).bind fun t329 => (some t329)) else (some false)))) else (some false)))) = some r := by rw [if_pos rfl] at H; exact H
              clear H
              have H := H1
              clear H1
              replace H := Option.bind_eq_some_iff.mp H
              obtain ⟨⟨t297, t298, t299, t300, t301, t302, t303, t304⟩, A800, H⟩ := H
              replace H : ((r8_Reg.f a0).bind fun bt305 => (if (t297 == bt305.1 && (t298 == bt305.2.1 && (t299 == bt305.2.2.1 && (t300 == bt305.2.2.2.1 && (t301 == bt305.2.2.2.2.1 && (t302 == bt305.2.2.2.2.2.1 && (t303 == bt305.2.2.2.2.2.2.1 && (t304 == bt305.2.2.2.2.2.2.2)))))))) = true then ((operand_Mem.f a0 a4).bind fun bt313 => ((r8_Mem.f a0 a4).bind fun bt321 => (if (bt313.1 == bt321.1 && (bt313.2.1 == bt321.2.1 && (bt313.2.2.1 == bt321.2.2.1 && (bt313.2.2.2.1 == bt321.2.2.2.1 && (bt313.2.2.2.2.1 == bt321.2.2.2.2.1 && (bt313.2.2.2.2.2.1 == bt321.2.2.2.2.2.1 && (bt313.2.2.2.2.2.2.1 == bt321.2.2.2.2.2.2.1 && (bt313.2.2.2.2.2.2.2 == bt321.2.2.2.2.2.2.2)))))))) = true then ((l8_wakes.f).bind fun t329 => (some t329)) else (some false)))) else (some false))) = some r := H
              have A80 := Aside0.mk A800
              clear A800
              replace H := Option.bind_eq_some_iff.mp H
              obtain ⟨⟨t305, t306, t307, t308, t309, t310, t311, t312⟩, A810, H⟩ := H
              replace H : (if (t297 == t305 && (t298 == t306 && (t299 == t307 && (t300 == t308 && (t301 == t309 && (t302 == t310 && (t303 == t311 && (t304 == t312)))))))) = true then ((operand_Mem.f a0 a4).bind fun bt313 => ((r8_Mem.f a0 a4).bind fun bt321 => (if (bt313.1 == bt321.1 && (bt313.2.1 == bt321.2.1 && (bt313.2.2.1 == bt321.2.2.1 && (bt313.2.2.2.1 == bt321.2.2.2.1 && (bt313.2.2.2.2.1 == bt321.2.2.2.2.1 && (bt313.2.2.2.2.2.1 == bt321.2.2.2.2.2.1 && (bt313.2.2.2.2.2.2.1 == bt321.2.2.2.2.2.2.1 && (bt313.2.2.2.2.2.2.2 == bt321.2.2.2.2.2.2.2)))))))) = true then ((l8_wakes.f).bind fun t329 => (some t329)) else (some false)))) else (some false)) = some r := H
              have A81 := Aside0.mk A810
              clear A810
              by_cases c82 : (t297 == t305 && (t298 == t306 && (t299 == t307 && (t300 == t308 && (t301 == t309 && (t302 == t310 && (t303 == t311 && (t304 == t312)))))))) = true
              · rw [if_pos c82] at H
                have c82b0 : (t297 == t305 && (t298 == t306 && (t299 == t307 && (t300 == t308 && (t301 == t309 && (t302 == t310 && (t303 == t311 && (t304 == t312)))))))) = true := c82
                (try (have c82b1 : decide (t297 = t305 && (t298 == t306 && (t299 == t307 && (t300 == t308 && (t301 == t309 && (t302 == t310 && (t303 == t311 && (t304 == t312)))))))) = true := by simpa using c82))
                (try (have c82b2 : (t297 == t305 && (t298 == t306 && (t299 == t307 && (t300 == t308 && (t301 == t309 && (t302 == t310 && (t303 == t311 && (t304 == t312)))))))) = true := by simpa using c82))
                clear c82
                replace H := Option.bind_eq_some_iff.mp H
                obtain ⟨⟨t313, t314, t315, t316, t317, t318, t319, t320⟩, A830, H⟩ := H
                replace H : ((r8_Mem.f a0 a4).bind fun bt321 => (if (t313 == bt321.1 && (t314 == bt321.2.1 && (t315 == bt321.2.2.1 && (t316 == bt321.2.2.2.1 && (t317 == bt321.2.2.2.2.1 && (t318 == bt321.2.2.2.2.2.1 && (t319 == bt321.2.2.2.2.2.2.1 && (t320 == bt321.2.2.2.2.2.2.2)))))))) = true then ((l8_wakes.f).bind fun t329 => (some t329)) else (some false))) = some r := H
                have A83 := Aside0.mk A830
                clear A830
                replace H := Option.bind_eq_some_iff.mp H
                obtain ⟨⟨t321, t322, t323, t324, t325, t326, t327, t328⟩, A840, H⟩ := H
                replace H : (if (t313 == t321 && (t314 == t322 && (t315 == t323 && (t316 == t324 && (t317 == t325 && (t318 == t326 && (t319 == t327 && (t320 == t328)))))))) = true then ((l8_wakes.f).bind fun t329 => (some t329)) else (some false)) = some r := H
                have A84 := Aside0.mk A840
                clear A840
                by_cases c85 : (t313 == t321 && (t314 == t322 && (t315 == t323 && (t316 == t324 && (t317 == t325 && (t318 == t326 && (t319 == t327 && (t320 == t328)))))))) = true
                · rw [if_pos c85] at H
                  have c85b0 : (t313 == t321 && (t314 == t322 && (t315 == t323 && (t316 == t324 && (t317 == t325 && (t318 == t326 && (t319 == t327 && (t320 == t328)))))))) = true := c85
                  (try (have c85b1 : decide (t313 = t321 && (t314 == t322 && (t315 == t323 && (t316 == t324 && (t317 == t325 && (t318 == t326 && (t319 == t327 && (t320 == t328)))))))) = true := by simpa using c85))
                  (try (have c85b2 : (t313 == t321 && (t314 == t322 && (t315 == t323 && (t316 == t324 && (t317 == t325 && (t318 == t326 && (t319 == t327 && (t320 == t328)))))))) = true := by simpa using c85))
                  clear c85
                  replace H := Option.bind_eq_some_iff.mp H
                  obtain ⟨t329, A860, H⟩ := H
                  replace H : (some t329) = some r := H
                  have A86 := Aside0.mk A860
                  clear A860
                  obtain rfl := Option.some.inj H
                  try go_wp2
                  have n0_ := Aside0.mk (bD_ BK251.out)
                  have n1_ := Aside0.mk (bD_ BK264.out)
                  have n2_ := Aside0.mk (bD_ BK276.out)
                  have n3_ := Aside0.mk (bY_ HB.out)
                  clear BK251
                  clear BK264
                  clear BK276
                  clear HB
                  have BK251 := n0_
                  have BK264 := n1_
                  have BK276 := n2_
                  have HB := n3_
                  clear n0_ n1_ n2_ n3_
                  refine start_ (n := 32) (S := fun w' => w'.cell? ⟨gb251, 0, none⟩ = some (.int .u8 a1_0) ∧ w'.cell? ⟨gb251, 1, none⟩ = some (.int .i64 a1_1) ∧ w'.cell? ⟨gb251, 2, none⟩ = some (.int .i64 a1_2) ∧ w'.cell? ⟨gb251, 3, none⟩ = some (.int .i64 a1_3) ∧ w'.cell? ⟨gb251, 4, none⟩ = some (.int .i64 a1_4) ∧ w'.cell? ⟨gb251, 5, none⟩ = some (.int .i64 a1_5) ∧ w'.cell? ⟨gb251, 6, none⟩ = some (.bool a1_6) ∧ w'.cell? ⟨gb251, 7, none⟩ = some (.int .i64 a1_7)) (ds := []) #[false, false, false, false, false, false, false, false, false, false, false, false, false, false, false, false, false, false, false, false, false, false, false, false, false, false, false, false, false, false, false, false] (by kernel_rfl) rfl rfl ⟨(bC_ BK251.out 0).trans rfl, (bC_ BK251.out 1).trans rfl, (bC_ BK251.out 2).trans rfl, (bC_ BK251.out 3).trans rfl, (bC_ BK251.out 4).trans rfl, (bC_ BK251.out 5).trans rfl, (bC_ BK251.out 6).trans rfl, (bC_ BK251.out 7).trans rfl⟩ (fun hHeld => ?_); refine with_tabW lTl.tab9 lTl.bits9 (fun HT_ HW_ => ?_)
                  generalize wc.drew = w87 at BK251 BK264 BK276 HB hHeld ⊢
                  refine take_ (i := 0) (N := some 93) (v := ?_) (a' := ?_) #[true, false, false, false, false, false, false, false, false, false, false, false, false, false, false, false, false, false, false, false, false, false, false, false, false, false, false, false, false, false, false, false] rfl rfl (take_ofW HT_.out HW_.out (by kernel_rfl)) (fun _ _ _ h => h) (Or.inl ⟨by rfl, ?_⟩) hHeld ?_ ?_
                  rotate_left
                  · rintro w' ⟨s0, s1, s2, s3, s4, s5, s6, s7⟩
                    go_simp
                    with_reducible rfl
                  rotate_left
                  · simp only [Act.put, List.setIfInBounds_toArray, List.set_cons_zero, List.set_cons_succ, i64_w, i32_w]
                    rfl
                  refine take_ (i := 2) (N := some 95) (v := ?_) (a' := ?_) #[true, false, true, false, false, false, false, false, false, false, false, false, false, false, false, false, false, false, false, false, false, false, false, false, false, false, false, false, false, false, false, false] rfl rfl (take_ofW HT_.out HW_.out (by kernel_rfl)) (fun _ _ _ h => h) (Or.inl ⟨by rfl, ?_⟩) hHeld ?_ ?_
                  rotate_left
                  · rintro w' ⟨s0, s1, s2, s3, s4, s5, s6, s7⟩
                    go_simp
                    with_reducible rfl
                  rotate_left
                  · simp only [Act.put, List.setIfInBounds_toArray, List.set_cons_zero, List.set_cons_succ, i64_w, i32_w]
                    rfl
                  refine one_ (i := 1) (N := some 94) #[true, true, true, false, false, false, false, false, false, false, false, false, false, false, false, false, false, false, false, false, false, false, false, false, false, false, false, false, false, false, false, false] rfl rfl (one_of HT_.out (by kernel_rfl)) (by decide) (fun K hK => ?_)
                  refine goes_ Tryd.func15 (by kernel_rfl) rfl #[.agg #[.int .u8 a1_0, .int .i64 a1_1, .int .i64 a1_2, .int .i64 a1_3, .int .i64 a1_4, .int .i64 a1_5, .bool a1_6, .int .i64 a1_7]] (by rfl) rfl rfl (by (try simp only [List.map_toArray, List.map_cons, List.map_nil]); first | done | rfl | (simp only [List.length_drop, List.length_take]; rfl)) ?_
                  with_reducible refine (operand_Right.calls kj13 a1_0 a1_1 a1_2 a1_3 a1_4 a1_5 a1_6 a1_7 t288 _ A73.out).mono ?_
                  rintro e w88 ⟨rfl, hb⟩
                  refine ⟨_, rfl, ?_⟩
                  have n0_ := Aside0.mk (blk_below (g := gb251) (o := .cells #[.int .u8 a1_0, .int .i64 a1_1, .int .i64 a1_2, .int .i64 a1_3, .int .i64 a1_4, .int .i64 a1_5, .bool a1_6, .int .i64 a1_7] 23 (0, 0)) (by (with_reducible repeat (first | refine bN_ ?_ _ | refine bD_ ?_ | refine bA_ ?_ _)); exact BK251.out) hb)
                  have n1_ := Aside0.mk (blk_below (g := gb264) (o := .cells #[.int .u8 t254, .int .i64 t255, .int .i64 t256, .int .i64 t257, .int .i64 t258, .int .i64 t259, .bool t260, .int .i64 t261] 23 (0, 0)) (by (with_reducible repeat (first | refine bN_ ?_ _ | refine bD_ ?_ | refine bA_ ?_ _)); exact BK264.out) hb)
                  have n2_ := Aside0.mk (blk_below (g := gb276) (o := .cells #[.int .u8 t266, .int .i64 t267, .int .i64 t268, .int .i64 t269, .int .i64 t270, .int .i64 t271, .bool t272, .int .i64 t273] 23 (0, 0)) (by (with_reducible repeat (first | refine bN_ ?_ _ | refine bD_ ?_ | refine bA_ ?_ _)); exact BK276.out) hb)
                  have n3_ := Aside0.mk (below_step (by repeat (first | (with_reducible first | exact HB.out | apply bX_ | apply bW_ | apply bY_ | refine bS_ ?_ GE251.out | refine bS_ ?_ GE264.out | refine bS_ ?_ GE276.out) | exact HB.out)) hb)
                  clear BK251
                  clear BK264
                  clear BK276
                  clear HB
                  have BK251 := n0_
                  have BK264 := n1_
                  have BK276 := n2_
                  have HB := n3_
                  clear n0_ n1_ n2_ n3_
                  (try clear hb)
                  (try clear hb2)
                  (try clear hk)
                  (try clear hi)
                  refine hK.out _ _ ⟨(bC_ BK251.out 0).trans rfl, (bC_ BK251.out 1).trans rfl, (bC_ BK251.out 2).trans rfl, (bC_ BK251.out 3).trans rfl, (bC_ BK251.out 4).trans rfl, (bC_ BK251.out 5).trans rfl, (bC_ BK251.out 6).trans rfl, (bC_ BK251.out 7).trans rfl⟩ (fun hHeld => ?_)
                  clear hK K
                  refine norm_ (a' := ?_) ?_ ?_
                  rotate_left
                  · show Act.put _ (some 94) _ = _
                    simp only [Act.put, List.setIfInBounds_toArray, List.set_cons_zero, List.set_cons_succ, i64_w, i32_w]
                    rfl
                  refine one_ (i := 3) (N := some 96) #[true, true, true, true, false, false, false, false, false, false, false, false, false, false, false, false, false, false, false, false, false, false, false, false, false, false, false, false, false, false, false, false] rfl rfl (one_of HT_.out (by kernel_rfl)) (by decide) (fun K hK => ?_)
                  refine goes_ Tryd.func10 (by kernel_rfl) rfl #[.agg #[.int .u8 a1_0, .int .i64 a1_1, .int .i64 a1_2, .int .i64 a1_3, .int .i64 a1_4, .int .i64 a1_5, .bool a1_6, .int .i64 a1_7]] (by rfl) rfl rfl (by (try simp only [List.map_toArray, List.map_cons, List.map_nil]); first | done | rfl | (simp only [List.length_drop, List.length_take]; rfl)) ?_
                  with_reducible refine (r8_Right.calls kj13 a1_0 a1_1 a1_2 a1_3 a1_4 a1_5 a1_6 a1_7 t289 _ A74.out).mono ?_
                  rintro e w89 ⟨rfl, hb⟩
                  refine ⟨_, rfl, ?_⟩
                  have n0_ := Aside0.mk (blk_below (g := gb251) (o := .cells #[.int .u8 a1_0, .int .i64 a1_1, .int .i64 a1_2, .int .i64 a1_3, .int .i64 a1_4, .int .i64 a1_5, .bool a1_6, .int .i64 a1_7] 23 (0, 0)) (by (with_reducible repeat (first | refine bN_ ?_ _ | refine bD_ ?_ | refine bA_ ?_ _)); exact BK251.out) hb)
                  have n1_ := Aside0.mk (blk_below (g := gb264) (o := .cells #[.int .u8 t254, .int .i64 t255, .int .i64 t256, .int .i64 t257, .int .i64 t258, .int .i64 t259, .bool t260, .int .i64 t261] 23 (0, 0)) (by (with_reducible repeat (first | refine bN_ ?_ _ | refine bD_ ?_ | refine bA_ ?_ _)); exact BK264.out) hb)
                  have n2_ := Aside0.mk (blk_below (g := gb276) (o := .cells #[.int .u8 t266, .int .i64 t267, .int .i64 t268, .int .i64 t269, .int .i64 t270, .int .i64 t271, .bool t272, .int .i64 t273] 23 (0, 0)) (by (with_reducible repeat (first | refine bN_ ?_ _ | refine bD_ ?_ | refine bA_ ?_ _)); exact BK276.out) hb)
                  have n3_ := Aside0.mk (below_step (by repeat (first | (with_reducible first | exact HB.out | apply bX_ | apply bW_ | apply bY_ | refine bS_ ?_ GE251.out | refine bS_ ?_ GE264.out | refine bS_ ?_ GE276.out) | exact HB.out)) hb)
                  clear BK251
                  clear BK264
                  clear BK276
                  clear HB
                  have BK251 := n0_
                  have BK264 := n1_
                  have BK276 := n2_
                  have HB := n3_
                  clear n0_ n1_ n2_ n3_
                  (try clear hb)
                  (try clear hb2)
                  (try clear hk)
                  (try clear hi)
                  refine hK.out _ _ ⟨(bC_ BK251.out 0).trans rfl, (bC_ BK251.out 1).trans rfl, (bC_ BK251.out 2).trans rfl, (bC_ BK251.out 3).trans rfl, (bC_ BK251.out 4).trans rfl, (bC_ BK251.out 5).trans rfl, (bC_ BK251.out 6).trans rfl, (bC_ BK251.out 7).trans rfl⟩ (fun hHeld => ?_)
                  clear hK K
                  refine norm_ (a' := ?_) ?_ ?_
                  rotate_left
                  · show Act.put _ (some 96) _ = _
                    simp only [Act.put, List.setIfInBounds_toArray, List.set_cons_zero, List.set_cons_succ, i64_w, i32_w]
                    rfl
                  refine pure_ (i := 4) (N := some 97) (v := ?_) (a' := ?_) #[true, true, true, true, true, false, false, false, false, false, false, false, false, false, false, false, false, false, false, false, false, false, false, false, false, false, false, false, false, false, false, false] rfl rfl (any_of HT_.out (by kernel_rfl)) (fun _ _ _ h => h) (Or.inl ⟨by rfl, ?_⟩) ?_ ?_
                  rotate_left
                  · intro w'
                    go_simp
                    with_reducible rfl
                  rotate_left
                  · simp only [Act.put, List.setIfInBounds_toArray, List.set_cons_zero, List.set_cons_succ, i64_w, i32_w]
                    rfl
                  refine pure_ (i := 5) (N := some 98) (v := ?_) (a' := ?_) #[true, true, true, true, true, true, false, false, false, false, false, false, false, false, false, false, false, false, false, false, false, false, false, false, false, false, false, false, false, false, false, false] rfl rfl (any_of HT_.out (by kernel_rfl)) (fun _ _ _ h => h) (Or.inl ⟨by rfl, ?_⟩) ?_ ?_
                  rotate_left
                  · intro w'
                    go_simp
                    with_reducible rfl
                  rotate_left
                  · simp only [Act.put, List.setIfInBounds_toArray, List.set_cons_zero, List.set_cons_succ, i64_w, i32_w]
                    rfl
                  refine take_ (i := 6) (N := some 99) (v := ?_) (a' := ?_) #[true, true, true, true, true, true, true, false, false, false, false, false, false, false, false, false, false, false, false, false, false, false, false, false, false, false, false, false, false, false, false, false] rfl rfl (take_ofW HT_.out HW_.out (by kernel_rfl)) (fun _ _ _ h => h) (Or.inl ⟨by rfl, ?_⟩) hHeld ?_ ?_
                  rotate_left
                  · rintro w' ⟨s0, s1, s2, s3, s4, s5, s6, s7⟩
                    go_simp
                    with_reducible rfl
                  rotate_left
                  · simp only [Act.put, List.setIfInBounds_toArray, List.set_cons_zero, List.set_cons_succ, i64_w, i32_w]
                    rfl
                  refine take_ (i := 8) (N := some 101) (v := ?_) (a' := ?_) #[true, true, true, true, true, true, true, false, true, false, false, false, false, false, false, false, false, false, false, false, false, false, false, false, false, false, false, false, false, false, false, false] rfl rfl (take_ofW HT_.out HW_.out (by kernel_rfl)) (fun _ _ _ h => h) (Or.inl ⟨by rfl, ?_⟩) hHeld ?_ ?_
                  rotate_left
                  · rintro w' ⟨s0, s1, s2, s3, s4, s5, s6, s7⟩
                    go_simp
                    with_reducible rfl
                  rotate_left
                  · simp only [Act.put, List.setIfInBounds_toArray, List.set_cons_zero, List.set_cons_succ, i64_w, i32_w]
                    rfl
                  refine one_ (i := 7) (N := some 100) #[true, true, true, true, true, true, true, true, true, false, false, false, false, false, false, false, false, false, false, false, false, false, false, false, false, false, false, false, false, false, false, false] rfl rfl (one_of HT_.out (by kernel_rfl)) (by decide) (fun K hK => ?_)
                  refine goes_ Tryd.func17 (by kernel_rfl) rfl #[.agg #[.int .u8 a1_0, .int .i64 a1_1, .int .i64 a1_2, .int .i64 a1_3, .int .i64 a1_4, .int .i64 a1_5, .bool a1_6, .int .i64 a1_7]] (by rfl) rfl rfl (by (try simp only [List.map_toArray, List.map_cons, List.map_nil]); first | done | rfl | (simp only [List.length_drop, List.length_take]; rfl)) ?_
                  with_reducible refine (operand_Uses.calls a1_0 a1_1 a1_2 a1_3 a1_4 a1_5 a1_6 a1_7 t290 _ A76.out).mono ?_
                  rintro e w90 ⟨v291, rfl, ho0, hb⟩
                  refine ⟨_, rfl, ?_⟩
                  have n0_ := Aside0.mk (Kd.R_lower ho0 (below_size (by repeat (first | (with_reducible first | exact HB.out | apply bX_ | apply bW_ | apply bY_ | refine bS_ ?_ GE251.out | refine bS_ ?_ GE264.out | refine bS_ ?_ GE276.out) | exact HB.out))))
                  have n1_ := Aside0.mk (blk_below (g := gb251) (o := .cells #[.int .u8 a1_0, .int .i64 a1_1, .int .i64 a1_2, .int .i64 a1_3, .int .i64 a1_4, .int .i64 a1_5, .bool a1_6, .int .i64 a1_7] 23 (0, 0)) (by (with_reducible repeat (first | refine bN_ ?_ _ | refine bD_ ?_ | refine bA_ ?_ _)); exact BK251.out) hb)
                  have n2_ := Aside0.mk (blk_below (g := gb264) (o := .cells #[.int .u8 t254, .int .i64 t255, .int .i64 t256, .int .i64 t257, .int .i64 t258, .int .i64 t259, .bool t260, .int .i64 t261] 23 (0, 0)) (by (with_reducible repeat (first | refine bN_ ?_ _ | refine bD_ ?_ | refine bA_ ?_ _)); exact BK264.out) hb)
                  have n3_ := Aside0.mk (blk_below (g := gb276) (o := .cells #[.int .u8 t266, .int .i64 t267, .int .i64 t268, .int .i64 t269, .int .i64 t270, .int .i64 t271, .bool t272, .int .i64 t273] 23 (0, 0)) (by (with_reducible repeat (first | refine bN_ ?_ _ | refine bD_ ?_ | refine bA_ ?_ _)); exact BK276.out) hb)
                  have n4_ := Aside0.mk (below_step (by repeat (first | (with_reducible first | exact HB.out | apply bX_ | apply bW_ | apply bY_ | refine bS_ ?_ GE251.out | refine bS_ ?_ GE264.out | refine bS_ ?_ GE276.out) | exact HB.out)) hb)
                  clear BK251
                  clear BK264
                  clear BK276
                  clear HB
                  have HO292 := n0_
                  have BK251 := n1_
                  have BK264 := n2_
                  have BK276 := n3_
                  have HB := n4_
                  clear n0_ n1_ n2_ n3_ n4_
                  (try clear hb)
                  (try clear hb2)
                  (try clear hk)
                  (try clear hi)
                  (try clear ho0)
                  refine hK.out _ _ ⟨(bC_ BK251.out 0).trans rfl, (bC_ BK251.out 1).trans rfl, (bC_ BK251.out 2).trans rfl, (bC_ BK251.out 3).trans rfl, (bC_ BK251.out 4).trans rfl, (bC_ BK251.out 5).trans rfl, (bC_ BK251.out 6).trans rfl, (bC_ BK251.out 7).trans rfl⟩ (fun hHeld => ?_)
                  clear hK K
                  refine norm_ (a' := ?_) ?_ ?_
                  rotate_left
                  · show Act.put _ (some 100) _ = _
                    simp only [Act.put, List.setIfInBounds_toArray, List.set_cons_zero, List.set_cons_succ, i64_w, i32_w]
                    rfl
                  refine one_ (i := 9) (N := some 102) #[true, true, true, true, true, true, true, true, true, true, false, false, false, false, false, false, false, false, false, false, false, false, false, false, false, false, false, false, false, false, false, false] rfl rfl (one_of HT_.out (by kernel_rfl)) (by decide) (fun K hK => ?_)
                  refine goes_ Tryd.func18 (by kernel_rfl) rfl #[.agg #[.int .u8 a1_0, .int .i64 a1_1, .int .i64 a1_2, .int .i64 a1_3, .int .i64 a1_4, .int .i64 a1_5, .bool a1_6, .int .i64 a1_7]] (by rfl) rfl rfl (by (try simp only [List.map_toArray, List.map_cons, List.map_nil]); first | done | rfl | (simp only [List.length_drop, List.length_take]; rfl)) ?_
                  with_reducible refine (r8_Uses.calls a1_0 a1_1 a1_2 a1_3 a1_4 a1_5 a1_6 a1_7 t293 _ A77.out).mono ?_
                  rintro e w91 ⟨v294, rfl, ho0, hb⟩
                  refine ⟨_, rfl, ?_⟩
                  have n0_ := Aside0.mk (Kd.R_elder' (by (with_reducible repeat (first | apply Kd.R_alloc | apply Kd.R_drewN | apply Kd.R_drew)); exact HO292.out) (by first | exact Kd.R_base ho0 | exact Kd.R_base (Kd.S_R ho0) | exact Kd.R_base ho0) hb)
                  have n1_ := Aside0.mk (Kd.R_lower (Kd.R_new' ho0 (Kd.R_lt (by (with_reducible repeat (first | apply Kd.R_alloc | apply Kd.R_drewN | apply Kd.R_drew)); exact HO292.out))) (below_size (by repeat (first | (with_reducible first | exact HB.out | apply bX_ | apply bW_ | apply bY_ | refine bS_ ?_ GE251.out | refine bS_ ?_ GE264.out | refine bS_ ?_ GE276.out) | exact HB.out))))
                  have n2_ := Aside0.mk (blk_below (g := gb251) (o := .cells #[.int .u8 a1_0, .int .i64 a1_1, .int .i64 a1_2, .int .i64 a1_3, .int .i64 a1_4, .int .i64 a1_5, .bool a1_6, .int .i64 a1_7] 23 (0, 0)) (by (with_reducible repeat (first | refine bN_ ?_ _ | refine bD_ ?_ | refine bA_ ?_ _)); exact BK251.out) hb)
                  have n3_ := Aside0.mk (blk_below (g := gb264) (o := .cells #[.int .u8 t254, .int .i64 t255, .int .i64 t256, .int .i64 t257, .int .i64 t258, .int .i64 t259, .bool t260, .int .i64 t261] 23 (0, 0)) (by (with_reducible repeat (first | refine bN_ ?_ _ | refine bD_ ?_ | refine bA_ ?_ _)); exact BK264.out) hb)
                  have n4_ := Aside0.mk (blk_below (g := gb276) (o := .cells #[.int .u8 t266, .int .i64 t267, .int .i64 t268, .int .i64 t269, .int .i64 t270, .int .i64 t271, .bool t272, .int .i64 t273] 23 (0, 0)) (by (with_reducible repeat (first | refine bN_ ?_ _ | refine bD_ ?_ | refine bA_ ?_ _)); exact BK276.out) hb)
                  have n5_ := Aside0.mk (below_step (by repeat (first | (with_reducible first | exact HB.out | apply bX_ | apply bW_ | apply bY_ | refine bS_ ?_ GE251.out | refine bS_ ?_ GE264.out | refine bS_ ?_ GE276.out) | exact HB.out)) hb)
                  clear HO292
                  clear BK251
                  clear BK264
                  clear BK276
                  clear HB
                  have HO292 := n0_
                  have HO295 := n1_
                  have BK251 := n2_
                  have BK264 := n3_
                  have BK276 := n4_
                  have HB := n5_
                  clear n0_ n1_ n2_ n3_ n4_ n5_
                  (try clear hb)
                  (try clear hb2)
                  (try clear hk)
                  (try clear hi)
                  (try clear ho0)
                  obtain ⟨Ao92, co92, eo92⟩ := Kd.R_slice HO292.out
                  (first | subst eo92 | (injection eo92 with f1_ f2_ f3_; have f4_ := f1_.symm; have f5_ := f3_.symm; clear f1_ f2_ f3_; subst f4_; subst f5_))
                  obtain ⟨Ao93, co93, eo93⟩ := Kd.R_slice HO295.out
                  (first | subst eo93 | (injection eo93 with f1_ f2_ f3_; have f4_ := f1_.symm; have f5_ := f3_.symm; clear f1_ f2_ f3_; subst f4_; subst f5_))
                  refine hK.out _ _ ⟨(bC_ BK251.out 0).trans rfl, (bC_ BK251.out 1).trans rfl, (bC_ BK251.out 2).trans rfl, (bC_ BK251.out 3).trans rfl, (bC_ BK251.out 4).trans rfl, (bC_ BK251.out 5).trans rfl, (bC_ BK251.out 6).trans rfl, (bC_ BK251.out 7).trans rfl⟩ (fun hHeld => ?_)
                  clear hK K
                  refine norm_ (a' := ?_) ?_ ?_
                  rotate_left
                  · show Act.put _ (some 102) _ = _
                    simp only [Act.put, List.setIfInBounds_toArray, List.set_cons_zero, List.set_cons_succ, i64_w, i32_w]
                    rfl
                  refine one_ (i := 10) (N := some 103) #[true, true, true, true, true, true, true, true, true, true, true, false, false, false, false, false, false, false, false, false, false, false, false, false, false, false, false, false, false, false, false, false] rfl rfl (one_of HT_.out (by kernel_rfl)) (by decide) (fun K hK => ?_)
                  refine goes_ Tryd.func16 (by kernel_rfl) rfl #[.slice Ao92 t290.length co92, .slice Ao93 t293.length co93] (by rfl) rfl rfl (by (try simp only [List.map_toArray, List.map_cons, List.map_nil]); first | done | rfl | (simp only [List.length_drop, List.length_take]; rfl)) ?_
                  with_reducible refine (l8_ints.calls kj13 _ _ t290 _ _ t293 true _ ?side1 ?side2 ?side3 ?side4 A78.out).mono ?_
                  (case side1 => repeat (first | exact (Kd.R_reads' HO292.out).2.2 | (with_reducible refine Kd.C_alloc ?_ _) | (with_reducible refine Kd.C_drewN ?_ _) | (with_reducible refine Kd.C_drew ?_)))
                  (case side2 => exact (Kd.R_reads' HO292.out).2.1)
                  (case side3 => repeat (first | exact (Kd.R_reads' HO295.out).2.2 | (with_reducible refine Kd.C_alloc ?_ _) | (with_reducible refine Kd.C_drewN ?_ _) | (with_reducible refine Kd.C_drew ?_)))
                  (case side4 => exact (Kd.R_reads' HO295.out).2.1)
                  rintro e w' ⟨rfl, ⟨nd, rfl⟩⟩
                  refine ⟨_, rfl, ?_⟩
                  refine hK.out _ _ ⟨(bC_ BK251.out 0).trans rfl, (bC_ BK251.out 1).trans rfl, (bC_ BK251.out 2).trans rfl, (bC_ BK251.out 3).trans rfl, (bC_ BK251.out 4).trans rfl, (bC_ BK251.out 5).trans rfl, (bC_ BK251.out 6).trans rfl, (bC_ BK251.out 7).trans rfl⟩ (fun hHeld => ?_)
                  clear hK K
                  refine norm_ (a' := ?_) ?_ ?_
                  rotate_left
                  · show Act.put _ (some 103) _ = _
                    simp only [Act.put, List.setIfInBounds_toArray, List.set_cons_zero, List.set_cons_succ, i64_w, i32_w]
                    rfl
                  refine pure_ (i := 11) (N := some 104) (v := ?_) (a' := ?_) #[true, true, true, true, true, true, true, true, true, true, true, true, false, false, false, false, false, false, false, false, false, false, false, false, false, false, false, false, false, false, false, false] rfl rfl (any_of HT_.out (by kernel_rfl)) (fun _ _ _ h => h) (Or.inl ⟨by rfl, ?_⟩) ?_ ?_
                  rotate_left
                  · intro w'
                    go_simp
                    with_reducible rfl
                  rotate_left
                  · simp only [Act.put, List.setIfInBounds_toArray, List.set_cons_zero, List.set_cons_succ, i64_w, i32_w]
                    rfl
                  refine pure_ (i := 12) (N := some 105) (v := ?_) (a' := ?_) #[true, true, true, true, true, true, true, true, true, true, true, true, true, false, false, false, false, false, false, false, false, false, false, false, false, false, false, false, false, false, false, false] rfl rfl (any_of HT_.out (by kernel_rfl)) (fun _ _ _ h => h) (Or.inl ⟨by rfl, ?_⟩) ?_ ?_
                  rotate_left
                  · intro w'
                    go_simp
                    with_reducible rfl
                  rotate_left
                  · simp only [Act.put, List.setIfInBounds_toArray, List.set_cons_zero, List.set_cons_succ, i64_w, i32_w]
                    rfl
                  refine pure_ (i := 13) (N := some 106) (v := ?_) (a' := ?_) #[true, true, true, true, true, true, true, true, true, true, true, true, true, true, false, false, false, false, false, false, false, false, false, false, false, false, false, false, false, false, false, false] rfl rfl (any_of HT_.out (by kernel_rfl)) (fun _ _ _ h => h) (Or.inl ⟨by rfl, ?_⟩) ?_ ?_
                  rotate_left
                  · intro w'
                    go_simp
                    with_reducible rfl
                  rotate_left
                  · simp only [Act.put, List.setIfInBounds_toArray, List.set_cons_zero, List.set_cons_succ, i64_w, i32_w]
                    rfl
                  refine pure_ (i := 15) (N := some 108) (v := ?_) (a' := ?_) #[true, true, true, true, true, true, true, true, true, true, true, true, true, true, false, true, false, false, false, false, false, false, false, false, false, false, false, false, false, false, false, false] rfl rfl (any_of HT_.out (by kernel_rfl)) (fun _ _ _ h => h) (Or.inl ⟨by rfl, ?_⟩) ?_ ?_
                  rotate_left
                  · intro w'
                    go_simp
                    with_reducible rfl
                  rotate_left
                  · simp only [Act.put, List.setIfInBounds_toArray, List.set_cons_zero, List.set_cons_succ, i64_w, i32_w]
                    rfl
                  refine one_ (i := 14) (N := some 107) #[true, true, true, true, true, true, true, true, true, true, true, true, true, true, true, true, false, false, false, false, false, false, false, false, false, false, false, false, false, false, false, false] rfl rfl (one_of HT_.out (by kernel_rfl)) (by decide) (fun K hK => ?_)
                  refine goes_ Tryd.func19 (by kernel_rfl) rfl #[.int .i64 a0] (by rfl) rfl rfl (by (try simp only [List.map_toArray, List.map_cons, List.map_nil]); first | done | rfl | (simp only [List.length_drop, List.length_take]; rfl)) ?_
                  with_reducible refine (operand_Reg.calls a0 t297 t298 t299 t300 t301 t302 t303 t304 _ A80.out).mono ?_
                  rintro e w94 ⟨rfl, hb⟩
                  refine ⟨_, rfl, ?_⟩
                  have n0_ := Aside0.mk (Kd.R_below (by (with_reducible repeat (first | apply Kd.R_alloc | apply Kd.R_drewN | apply Kd.R_drew)); exact HO292.out) hb)
                  have n1_ := Aside0.mk (Kd.R_below (by (with_reducible repeat (first | apply Kd.R_alloc | apply Kd.R_drewN | apply Kd.R_drew)); exact HO295.out) hb)
                  have n2_ := Aside0.mk (blk_below (g := gb251) (o := .cells #[.int .u8 a1_0, .int .i64 a1_1, .int .i64 a1_2, .int .i64 a1_3, .int .i64 a1_4, .int .i64 a1_5, .bool a1_6, .int .i64 a1_7] 23 (0, 0)) (by (with_reducible repeat (first | refine bN_ ?_ _ | refine bD_ ?_ | refine bA_ ?_ _)); exact BK251.out) hb)
                  have n3_ := Aside0.mk (blk_below (g := gb264) (o := .cells #[.int .u8 t254, .int .i64 t255, .int .i64 t256, .int .i64 t257, .int .i64 t258, .int .i64 t259, .bool t260, .int .i64 t261] 23 (0, 0)) (by (with_reducible repeat (first | refine bN_ ?_ _ | refine bD_ ?_ | refine bA_ ?_ _)); exact BK264.out) hb)
                  have n4_ := Aside0.mk (blk_below (g := gb276) (o := .cells #[.int .u8 t266, .int .i64 t267, .int .i64 t268, .int .i64 t269, .int .i64 t270, .int .i64 t271, .bool t272, .int .i64 t273] 23 (0, 0)) (by (with_reducible repeat (first | refine bN_ ?_ _ | refine bD_ ?_ | refine bA_ ?_ _)); exact BK276.out) hb)
                  have n5_ := Aside0.mk (below_step (by repeat (first | (with_reducible first | exact HB.out | apply bX_ | apply bW_ | apply bY_ | refine bS_ ?_ GE251.out | refine bS_ ?_ GE264.out | refine bS_ ?_ GE276.out) | exact HB.out)) hb)
                  clear HO292
                  clear HO295
                  clear BK251
                  clear BK264
                  clear BK276
                  clear HB
                  have HO292 := n0_
                  have HO295 := n1_
                  have BK251 := n2_
                  have BK264 := n3_
                  have BK276 := n4_
                  have HB := n5_
                  clear n0_ n1_ n2_ n3_ n4_ n5_
                  (try clear hb)
                  (try clear hb2)
                  (try clear hk)
                  (try clear hi)
                  refine hK.out _ _ ⟨(bC_ BK251.out 0).trans rfl, (bC_ BK251.out 1).trans rfl, (bC_ BK251.out 2).trans rfl, (bC_ BK251.out 3).trans rfl, (bC_ BK251.out 4).trans rfl, (bC_ BK251.out 5).trans rfl, (bC_ BK251.out 6).trans rfl, (bC_ BK251.out 7).trans rfl⟩ (fun hHeld => ?_)
                  clear hK K
                  refine norm_ (a' := ?_) ?_ ?_
                  rotate_left
                  · show Act.put _ (some 107) _ = _
                    simp only [Act.put, List.setIfInBounds_toArray, List.set_cons_zero, List.set_cons_succ, i64_w, i32_w]
                    rfl
                  refine one_ (i := 16) (N := some 109) #[true, true, true, true, true, true, true, true, true, true, true, true, true, true, true, true, true, false, false, false, false, false, false, false, false, false, false, false, false, false, false, false] rfl rfl (one_of HT_.out (by kernel_rfl)) (by decide) (fun K hK => ?_)
                  refine goes_ Tryd.func20 (by kernel_rfl) rfl #[.int .i64 a0] (by rfl) rfl rfl (by (try simp only [List.map_toArray, List.map_cons, List.map_nil]); first | done | rfl | (simp only [List.length_drop, List.length_take]; rfl)) ?_
                  with_reducible refine (r8_Reg.calls a0 t305 t306 t307 t308 t309 t310 t311 t312 _ A81.out).mono ?_
                  rintro e w95 ⟨rfl, hb⟩
                  refine ⟨_, rfl, ?_⟩
                  have n0_ := Aside0.mk (Kd.R_below (by (with_reducible repeat (first | apply Kd.R_alloc | apply Kd.R_drewN | apply Kd.R_drew)); exact HO292.out) hb)
                  have n1_ := Aside0.mk (Kd.R_below (by (with_reducible repeat (first | apply Kd.R_alloc | apply Kd.R_drewN | apply Kd.R_drew)); exact HO295.out) hb)
                  have n2_ := Aside0.mk (blk_below (g := gb251) (o := .cells #[.int .u8 a1_0, .int .i64 a1_1, .int .i64 a1_2, .int .i64 a1_3, .int .i64 a1_4, .int .i64 a1_5, .bool a1_6, .int .i64 a1_7] 23 (0, 0)) (by (with_reducible repeat (first | refine bN_ ?_ _ | refine bD_ ?_ | refine bA_ ?_ _)); exact BK251.out) hb)
                  have n3_ := Aside0.mk (blk_below (g := gb264) (o := .cells #[.int .u8 t254, .int .i64 t255, .int .i64 t256, .int .i64 t257, .int .i64 t258, .int .i64 t259, .bool t260, .int .i64 t261] 23 (0, 0)) (by (with_reducible repeat (first | refine bN_ ?_ _ | refine bD_ ?_ | refine bA_ ?_ _)); exact BK264.out) hb)
                  have n4_ := Aside0.mk (blk_below (g := gb276) (o := .cells #[.int .u8 t266, .int .i64 t267, .int .i64 t268, .int .i64 t269, .int .i64 t270, .int .i64 t271, .bool t272, .int .i64 t273] 23 (0, 0)) (by (with_reducible repeat (first | refine bN_ ?_ _ | refine bD_ ?_ | refine bA_ ?_ _)); exact BK276.out) hb)
                  have n5_ := Aside0.mk (below_step (by repeat (first | (with_reducible first | exact HB.out | apply bX_ | apply bW_ | apply bY_ | refine bS_ ?_ GE251.out | refine bS_ ?_ GE264.out | refine bS_ ?_ GE276.out) | exact HB.out)) hb)
                  clear HO292
                  clear HO295
                  clear BK251
                  clear BK264
                  clear BK276
                  clear HB
                  have HO292 := n0_
                  have HO295 := n1_
                  have BK251 := n2_
                  have BK264 := n3_
                  have BK276 := n4_
                  have HB := n5_
                  clear n0_ n1_ n2_ n3_ n4_ n5_
                  (try clear hb)
                  (try clear hb2)
                  (try clear hk)
                  (try clear hi)
                  refine hK.out _ _ ⟨(bC_ BK251.out 0).trans rfl, (bC_ BK251.out 1).trans rfl, (bC_ BK251.out 2).trans rfl, (bC_ BK251.out 3).trans rfl, (bC_ BK251.out 4).trans rfl, (bC_ BK251.out 5).trans rfl, (bC_ BK251.out 6).trans rfl, (bC_ BK251.out 7).trans rfl⟩ (fun hHeld => ?_)
                  clear hK K
                  refine norm_ (a' := ?_) ?_ ?_
                  rotate_left
                  · show Act.put _ (some 109) _ = _
                    simp only [Act.put, List.setIfInBounds_toArray, List.set_cons_zero, List.set_cons_succ, i64_w, i32_w]
                    rfl
                  refine pure_ (i := 17) (N := some 110) (v := ?_) (a' := ?_) #[true, true, true, true, true, true, true, true, true, true, true, true, true, true, true, true, true, true, false, false, false, false, false, false, false, false, false, false, false, false, false, false] rfl rfl (any_of HT_.out (by kernel_rfl)) (fun _ _ _ h => h) (Or.inl ⟨by rfl, ?_⟩) ?_ ?_
                  rotate_left
                  · intro w'
                    go_simp
                    with_reducible rfl
                  rotate_left
                  · simp only [Act.put, List.setIfInBounds_toArray, List.set_cons_zero, List.set_cons_succ, i64_w, i32_w]
                    rfl
                  refine pure_ (i := 18) (N := some 111) (v := ?_) (a' := ?_) #[true, true, true, true, true, true, true, true, true, true, true, true, true, true, true, true, true, true, true, false, false, false, false, false, false, false, false, false, false, false, false, false] rfl rfl (any_of HT_.out (by kernel_rfl)) (fun _ _ _ h => h) (Or.inl ⟨by rfl, ?_⟩) ?_ ?_
                  rotate_left
                  · intro w'
                    go_simp
                    with_reducible rfl
                  rotate_left
                  · simp only [Act.put, List.setIfInBounds_toArray, List.set_cons_zero, List.set_cons_succ, i64_w, i32_w]
                    rfl
                  refine pure_ (i := 19) (N := some 112) (v := ?_) (a' := ?_) #[true, true, true, true, true, true, true, true, true, true, true, true, true, true, true, true, true, true, true, true, false, false, false, false, false, false, false, false, false, false, false, false] rfl rfl (any_of HT_.out (by kernel_rfl)) (fun _ _ _ h => h) (Or.inl ⟨by rfl, ?_⟩) ?_ ?_
                  rotate_left
                  · intro w'
                    go_simp
                    with_reducible rfl
                  rotate_left
                  · simp only [Act.put, List.setIfInBounds_toArray, List.set_cons_zero, List.set_cons_succ, i64_w, i32_w]
                    rfl
                  refine pure_ (i := 20) (N := some 113) (v := ?_) (a' := ?_) #[true, true, true, true, true, true, true, true, true, true, true, true, true, true, true, true, true, true, true, true, true, false, false, false, false, false, false, false, false, false, false, false] rfl rfl (any_of HT_.out (by kernel_rfl)) (fun _ _ _ h => h) (Or.inl ⟨by rfl, ?_⟩) ?_ ?_
                  rotate_left
                  · intro w'
                    go_simp
                    with_reducible rfl
                  rotate_left
                  · simp only [Act.put, List.setIfInBounds_toArray, List.set_cons_zero, List.set_cons_succ, i64_w, i32_w]
                    rfl
                  refine pure_ (i := 21) (N := some 114) (v := ?_) (a' := ?_) #[true, true, true, true, true, true, true, true, true, true, true, true, true, true, true, true, true, true, true, true, true, true, false, false, false, false, false, false, false, false, false, false] rfl rfl (any_of HT_.out (by kernel_rfl)) (fun _ _ _ h => h) (Or.inl ⟨by rfl, ?_⟩) ?_ ?_
                  rotate_left
                  · intro w'
                    go_simp
                    with_reducible rfl
                  rotate_left
                  · simp only [Act.put, List.setIfInBounds_toArray, List.set_cons_zero, List.set_cons_succ, i64_w, i32_w]
                    rfl
                  refine pure_ (i := 23) (N := some 116) (v := ?_) (a' := ?_) #[true, true, true, true, true, true, true, true, true, true, true, true, true, true, true, true, true, true, true, true, true, true, false, true, false, false, false, false, false, false, false, false] rfl rfl (any_of HT_.out (by kernel_rfl)) (fun _ _ _ h => h) (Or.inl ⟨by rfl, ?_⟩) ?_ ?_
                  rotate_left
                  · intro w'
                    go_simp
                    with_reducible rfl
                  rotate_left
                  · simp only [Act.put, List.setIfInBounds_toArray, List.set_cons_zero, List.set_cons_succ, i64_w, i32_w]
                    rfl
                  refine pure_ (i := 24) (N := some 117) (v := ?_) (a' := ?_) #[true, true, true, true, true, true, true, true, true, true, true, true, true, true, true, true, true, true, true, true, true, true, false, true, true, false, false, false, false, false, false, false] rfl rfl (any_of HT_.out (by kernel_rfl)) (fun _ _ _ h => h) (Or.inl ⟨by rfl, ?_⟩) ?_ ?_
                  rotate_left
                  · intro w'
                    go_simp
                    with_reducible rfl
                  rotate_left
                  · simp only [Act.put, List.setIfInBounds_toArray, List.set_cons_zero, List.set_cons_succ, i64_w, i32_w]
                    rfl
                  refine one_ (i := 22) (N := some 115) #[true, true, true, true, true, true, true, true, true, true, true, true, true, true, true, true, true, true, true, true, true, true, true, true, true, false, false, false, false, false, false, false] rfl rfl (one_of HT_.out (by kernel_rfl)) (by decide) (fun K hK => ?_)
                  refine goes_ Tryd.func21 (by kernel_rfl) rfl #[.int .i64 a0, .int .i64 a4] (by rfl) rfl rfl (by (try simp only [List.map_toArray, List.map_cons, List.map_nil]); first | done | rfl | (simp only [List.length_drop, List.length_take]; rfl)) ?_
                  with_reducible refine (operand_Mem.calls a0 a4 t313 t314 t315 t316 t317 t318 t319 t320 _ A83.out).mono ?_
                  rintro e w96 ⟨rfl, hb⟩
                  refine ⟨_, rfl, ?_⟩
                  have n0_ := Aside0.mk (Kd.R_below (by (with_reducible repeat (first | apply Kd.R_alloc | apply Kd.R_drewN | apply Kd.R_drew)); exact HO292.out) hb)
                  have n1_ := Aside0.mk (Kd.R_below (by (with_reducible repeat (first | apply Kd.R_alloc | apply Kd.R_drewN | apply Kd.R_drew)); exact HO295.out) hb)
                  have n2_ := Aside0.mk (blk_below (g := gb251) (o := .cells #[.int .u8 a1_0, .int .i64 a1_1, .int .i64 a1_2, .int .i64 a1_3, .int .i64 a1_4, .int .i64 a1_5, .bool a1_6, .int .i64 a1_7] 23 (0, 0)) (by (with_reducible repeat (first | refine bN_ ?_ _ | refine bD_ ?_ | refine bA_ ?_ _)); exact BK251.out) hb)
                  have n3_ := Aside0.mk (blk_below (g := gb264) (o := .cells #[.int .u8 t254, .int .i64 t255, .int .i64 t256, .int .i64 t257, .int .i64 t258, .int .i64 t259, .bool t260, .int .i64 t261] 23 (0, 0)) (by (with_reducible repeat (first | refine bN_ ?_ _ | refine bD_ ?_ | refine bA_ ?_ _)); exact BK264.out) hb)
                  have n4_ := Aside0.mk (blk_below (g := gb276) (o := .cells #[.int .u8 t266, .int .i64 t267, .int .i64 t268, .int .i64 t269, .int .i64 t270, .int .i64 t271, .bool t272, .int .i64 t273] 23 (0, 0)) (by (with_reducible repeat (first | refine bN_ ?_ _ | refine bD_ ?_ | refine bA_ ?_ _)); exact BK276.out) hb)
                  have n5_ := Aside0.mk (below_step (by repeat (first | (with_reducible first | exact HB.out | apply bX_ | apply bW_ | apply bY_ | refine bS_ ?_ GE251.out | refine bS_ ?_ GE264.out | refine bS_ ?_ GE276.out) | exact HB.out)) hb)
                  clear HO292
                  clear HO295
                  clear BK251
                  clear BK264
                  clear BK276
                  clear HB
                  have HO292 := n0_
                  have HO295 := n1_
                  have BK251 := n2_
                  have BK264 := n3_
                  have BK276 := n4_
                  have HB := n5_
                  clear n0_ n1_ n2_ n3_ n4_ n5_
                  (try clear hb)
                  (try clear hb2)
                  (try clear hk)
                  (try clear hi)
                  refine hK.out _ _ ⟨(bC_ BK251.out 0).trans rfl, (bC_ BK251.out 1).trans rfl, (bC_ BK251.out 2).trans rfl, (bC_ BK251.out 3).trans rfl, (bC_ BK251.out 4).trans rfl, (bC_ BK251.out 5).trans rfl, (bC_ BK251.out 6).trans rfl, (bC_ BK251.out 7).trans rfl⟩ (fun hHeld => ?_)
                  clear hK K
                  refine norm_ (a' := ?_) ?_ ?_
                  rotate_left
                  · show Act.put _ (some 115) _ = _
                    simp only [Act.put, List.setIfInBounds_toArray, List.set_cons_zero, List.set_cons_succ, i64_w, i32_w]
                    rfl
                  refine one_ (i := 25) (N := some 118) #[true, true, true, true, true, true, true, true, true, true, true, true, true, true, true, true, true, true, true, true, true, true, true, true, true, true, false, false, false, false, false, false] rfl rfl (one_of HT_.out (by kernel_rfl)) (by decide) (fun K hK => ?_)
                  refine goes_ Tryd.func22 (by kernel_rfl) rfl #[.int .i64 a0, .int .i64 a4] (by rfl) rfl rfl (by (try simp only [List.map_toArray, List.map_cons, List.map_nil]); first | done | rfl | (simp only [List.length_drop, List.length_take]; rfl)) ?_
                  with_reducible refine (r8_Mem.calls a0 a4 t321 t322 t323 t324 t325 t326 t327 t328 _ A84.out).mono ?_
                  rintro e w97 ⟨rfl, hb⟩
                  refine ⟨_, rfl, ?_⟩
                  have n0_ := Aside0.mk (Kd.R_below (by (with_reducible repeat (first | apply Kd.R_alloc | apply Kd.R_drewN | apply Kd.R_drew)); exact HO292.out) hb)
                  have n1_ := Aside0.mk (Kd.R_below (by (with_reducible repeat (first | apply Kd.R_alloc | apply Kd.R_drewN | apply Kd.R_drew)); exact HO295.out) hb)
                  have n2_ := Aside0.mk (blk_below (g := gb251) (o := .cells #[.int .u8 a1_0, .int .i64 a1_1, .int .i64 a1_2, .int .i64 a1_3, .int .i64 a1_4, .int .i64 a1_5, .bool a1_6, .int .i64 a1_7] 23 (0, 0)) (by (with_reducible repeat (first | refine bN_ ?_ _ | refine bD_ ?_ | refine bA_ ?_ _)); exact BK251.out) hb)
                  have n3_ := Aside0.mk (blk_below (g := gb264) (o := .cells #[.int .u8 t254, .int .i64 t255, .int .i64 t256, .int .i64 t257, .int .i64 t258, .int .i64 t259, .bool t260, .int .i64 t261] 23 (0, 0)) (by (with_reducible repeat (first | refine bN_ ?_ _ | refine bD_ ?_ | refine bA_ ?_ _)); exact BK264.out) hb)
                  have n4_ := Aside0.mk (blk_below (g := gb276) (o := .cells #[.int .u8 t266, .int .i64 t267, .int .i64 t268, .int .i64 t269, .int .i64 t270, .int .i64 t271, .bool t272, .int .i64 t273] 23 (0, 0)) (by (with_reducible repeat (first | refine bN_ ?_ _ | refine bD_ ?_ | refine bA_ ?_ _)); exact BK276.out) hb)
                  have n5_ := Aside0.mk (below_step (by repeat (first | (with_reducible first | exact HB.out | apply bX_ | apply bW_ | apply bY_ | refine bS_ ?_ GE251.out | refine bS_ ?_ GE264.out | refine bS_ ?_ GE276.out) | exact HB.out)) hb)
                  clear HO292
                  clear HO295
                  clear BK251
                  clear BK264
                  clear BK276
                  clear HB
                  have HO292 := n0_
                  have HO295 := n1_
                  have BK251 := n2_
                  have BK264 := n3_
                  have BK276 := n4_
                  have HB := n5_
                  clear n0_ n1_ n2_ n3_ n4_ n5_
                  (try clear hb)
                  (try clear hb2)
                  (try clear hk)
                  (try clear hi)
                  refine hK.out _ _ ⟨(bC_ BK251.out 0).trans rfl, (bC_ BK251.out 1).trans rfl, (bC_ BK251.out 2).trans rfl, (bC_ BK251.out 3).trans rfl, (bC_ BK251.out 4).trans rfl, (bC_ BK251.out 5).trans rfl, (bC_ BK251.out 6).trans rfl, (bC_ BK251.out 7).trans rfl⟩ (fun hHeld => ?_)
                  clear hK K
                  refine norm_ (a' := ?_) ?_ ?_
                  rotate_left
                  · show Act.put _ (some 118) _ = _
                    simp only [Act.put, List.setIfInBounds_toArray, List.set_cons_zero, List.set_cons_succ, i64_w, i32_w]
                    rfl
                  refine pure_ (i := 26) (N := some 119) (v := ?_) (a' := ?_) #[true, true, true, true, true, true, true, true, true, true, true, true, true, true, true, true, true, true, true, true, true, true, true, true, true, true, true, false, false, false, false, false] rfl rfl (any_of HT_.out (by kernel_rfl)) (fun _ _ _ h => h) (Or.inl ⟨by rfl, ?_⟩) ?_ ?_
                  rotate_left
                  · intro w'
                    go_simp
                    with_reducible rfl
                  rotate_left
                  · simp only [Act.put, List.setIfInBounds_toArray, List.set_cons_zero, List.set_cons_succ, i64_w, i32_w]
                    rfl
                  refine pure_ (i := 27) (N := some 120) (v := ?_) (a' := ?_) #[true, true, true, true, true, true, true, true, true, true, true, true, true, true, true, true, true, true, true, true, true, true, true, true, true, true, true, true, false, false, false, false] rfl rfl (any_of HT_.out (by kernel_rfl)) (fun _ _ _ h => h) (Or.inl ⟨by rfl, ?_⟩) ?_ ?_
                  rotate_left
                  · intro w'
                    go_simp
                    with_reducible rfl
                  rotate_left
                  · simp only [Act.put, List.setIfInBounds_toArray, List.set_cons_zero, List.set_cons_succ, i64_w, i32_w]
                    rfl
                  refine pure_ (i := 28) (N := some 121) (v := ?_) (a' := ?_) #[true, true, true, true, true, true, true, true, true, true, true, true, true, true, true, true, true, true, true, true, true, true, true, true, true, true, true, true, true, false, false, false] rfl rfl (any_of HT_.out (by kernel_rfl)) (fun _ _ _ h => h) (Or.inl ⟨by rfl, ?_⟩) ?_ ?_
                  rotate_left
                  · intro w'
                    go_simp
                    with_reducible rfl
                  rotate_left
                  · simp only [Act.put, List.setIfInBounds_toArray, List.set_cons_zero, List.set_cons_succ, i64_w, i32_w]
                    rfl
                  refine one_ (i := 29) (N := some 122) #[true, true, true, true, true, true, true, true, true, true, true, true, true, true, true, true, true, true, true, true, true, true, true, true, true, true, true, true, true, true, false, false] rfl rfl (one_of HT_.out (by kernel_rfl)) (by decide) (fun K hK => ?_)
                  refine goes_ Tryd.func8 (by kernel_rfl) rfl #[] (by rfl) rfl rfl (by (try simp only [List.map_toArray, List.map_cons, List.map_nil]); first | done | rfl | (simp only [List.length_drop, List.length_take]; rfl)) ?_
                  with_reducible refine (l8_wakes.calls  t329 _ A86.out).mono ?_
                  rintro e w98 ⟨rfl, hb⟩
                  refine ⟨_, rfl, ?_⟩
                  have n0_ := Aside0.mk (Kd.R_below (by (with_reducible repeat (first | apply Kd.R_alloc | apply Kd.R_drewN | apply Kd.R_drew)); exact HO292.out) hb)
                  have n1_ := Aside0.mk (Kd.R_below (by (with_reducible repeat (first | apply Kd.R_alloc | apply Kd.R_drewN | apply Kd.R_drew)); exact HO295.out) hb)
                  have n2_ := Aside0.mk (blk_below (g := gb251) (o := .cells #[.int .u8 a1_0, .int .i64 a1_1, .int .i64 a1_2, .int .i64 a1_3, .int .i64 a1_4, .int .i64 a1_5, .bool a1_6, .int .i64 a1_7] 23 (0, 0)) (by (with_reducible repeat (first | refine bN_ ?_ _ | refine bD_ ?_ | refine bA_ ?_ _)); exact BK251.out) hb)
                  have n3_ := Aside0.mk (blk_below (g := gb264) (o := .cells #[.int .u8 t254, .int .i64 t255, .int .i64 t256, .int .i64 t257, .int .i64 t258, .int .i64 t259, .bool t260, .int .i64 t261] 23 (0, 0)) (by (with_reducible repeat (first | refine bN_ ?_ _ | refine bD_ ?_ | refine bA_ ?_ _)); exact BK264.out) hb)
                  have n4_ := Aside0.mk (blk_below (g := gb276) (o := .cells #[.int .u8 t266, .int .i64 t267, .int .i64 t268, .int .i64 t269, .int .i64 t270, .int .i64 t271, .bool t272, .int .i64 t273] 23 (0, 0)) (by (with_reducible repeat (first | refine bN_ ?_ _ | refine bD_ ?_ | refine bA_ ?_ _)); exact BK276.out) hb)
                  have n5_ := Aside0.mk (below_step (by repeat (first | (with_reducible first | exact HB.out | apply bX_ | apply bW_ | apply bY_ | refine bS_ ?_ GE251.out | refine bS_ ?_ GE264.out | refine bS_ ?_ GE276.out) | exact HB.out)) hb)
                  clear HO292
                  clear HO295
                  clear BK251
                  clear BK264
                  clear BK276
                  clear HB
                  have HO292 := n0_
                  have HO295 := n1_
                  have BK251 := n2_
                  have BK264 := n3_
                  have BK276 := n4_
                  have HB := n5_
                  clear n0_ n1_ n2_ n3_ n4_ n5_
                  (try clear hb)
                  (try clear hb2)
                  (try clear hk)
                  (try clear hi)
                  refine hK.out _ _ ⟨(bC_ BK251.out 0).trans rfl, (bC_ BK251.out 1).trans rfl, (bC_ BK251.out 2).trans rfl, (bC_ BK251.out 3).trans rfl, (bC_ BK251.out 4).trans rfl, (bC_ BK251.out 5).trans rfl, (bC_ BK251.out 6).trans rfl, (bC_ BK251.out 7).trans rfl⟩ (fun hHeld => ?_)
                  clear hK K
                  refine norm_ (a' := ?_) ?_ ?_
                  rotate_left
                  · show Act.put _ (some 122) _ = _
                    simp only [Act.put, List.setIfInBounds_toArray, List.set_cons_zero, List.set_cons_succ, i64_w, i32_w]
                    rfl
                  refine pure_ (i := 30) (N := some 123) (v := ?_) (a' := ?_) #[true, true, true, true, true, true, true, true, true, true, true, true, true, true, true, true, true, true, true, true, true, true, true, true, true, true, true, true, true, true, true, false] rfl rfl (any_of HT_.out (by kernel_rfl)) (fun _ _ _ h => h) (Or.inl ⟨by rfl, ?_⟩) ?_ ?_
                  rotate_left
                  · intro w'
                    go_simp
                    with_reducible rfl
                  rotate_left
                  · simp only [Act.put, List.setIfInBounds_toArray, List.set_cons_zero, List.set_cons_succ, i64_w, i32_w]
                    rfl
                  refine pure_ (i := 31) (N := some 10) (v := ?_) (a' := ?_) #[true, true, true, true, true, true, true, true, true, true, true, true, true, true, true, true, true, true, true, true, true, true, true, true, true, true, true, true, true, true, true, true] rfl rfl (any_of HT_.out (by kernel_rfl)) (fun _ _ _ h => h) (Or.inl ⟨by rfl, ?_⟩) ?_ ?_
                  rotate_left
                  · intro w'
                    go_simp
                    with_reducible rfl
                  rotate_left
                  · simp only [Act.put, List.setIfInBounds_toArray, List.set_cons_zero, List.set_cons_succ, i64_w, i32_w]
                    rfl
                  refine done_ (done_of HT_.out (by kernel_rfl)) ?_
                  try go_wp2
                  go_ret
                  exact ⟨by first | rfl | (simp [errW_none, errW_some] <;> rfl) | (simp [*, errW_none, errW_some] <;> rfl), by repeat (first | (with_reducible first | exact HB.out | apply bX_ | apply bW_ | apply bY_ | refine bS_ ?_ GE251.out | refine bS_ ?_ GE264.out | refine bS_ ?_ GE276.out) | exact HB.out)⟩
                · rw [if_neg c85] at H
                  have c85b0 : (t313 == t321 && (t314 == t322 && (t315 == t323 && (t316 == t324 && (t317 == t325 && (t318 == t326 && (t319 == t327 && (t320 == t328)))))))) = false := by simpa using c85
                  (try (have c85b1 : decide (t313 = t321 && (t314 == t322 && (t315 == t323 && (t316 == t324 && (t317 == t325 && (t318 == t326 && (t319 == t327 && (t320 == t328)))))))) = false := by simpa using c85))
                  (try (have c85b2 : (t313 == t321 && (t314 == t322 && (t315 == t323 && (t316 == t324 && (t317 == t325 && (t318 == t326 && (t319 == t327 && (t320 == t328)))))))) = false := by simpa using c85))
                  (try (have c85b3 : ¬ (t313 = t321 && (t314 == t322 && (t315 == t323 && (t316 == t324 && (t317 == t325 && (t318 == t326 && (t319 == t327 && (t320 == t328)))))))) := by simpa using c85))
                  clear c85
                  obtain rfl := Option.some.inj H
                  try go_wp2
                  have n0_ := Aside0.mk (bD_ BK251.out)
                  have n1_ := Aside0.mk (bD_ BK264.out)
                  have n2_ := Aside0.mk (bD_ BK276.out)
                  have n3_ := Aside0.mk (bY_ HB.out)
                  clear BK251
                  clear BK264
                  clear BK276
                  clear HB
                  have BK251 := n0_
                  have BK264 := n1_
                  have BK276 := n2_
                  have HB := n3_
                  clear n0_ n1_ n2_ n3_
                  refine start_ (n := 32) (S := fun w' => w'.cell? ⟨gb251, 0, none⟩ = some (.int .u8 a1_0) ∧ w'.cell? ⟨gb251, 1, none⟩ = some (.int .i64 a1_1) ∧ w'.cell? ⟨gb251, 2, none⟩ = some (.int .i64 a1_2) ∧ w'.cell? ⟨gb251, 3, none⟩ = some (.int .i64 a1_3) ∧ w'.cell? ⟨gb251, 4, none⟩ = some (.int .i64 a1_4) ∧ w'.cell? ⟨gb251, 5, none⟩ = some (.int .i64 a1_5) ∧ w'.cell? ⟨gb251, 6, none⟩ = some (.bool a1_6) ∧ w'.cell? ⟨gb251, 7, none⟩ = some (.int .i64 a1_7)) (ds := []) #[false, false, false, false, false, false, false, false, false, false, false, false, false, false, false, false, false, false, false, false, false, false, false, false, false, false, false, false, false, false, false, false] (by kernel_rfl) rfl rfl ⟨(bC_ BK251.out 0).trans rfl, (bC_ BK251.out 1).trans rfl, (bC_ BK251.out 2).trans rfl, (bC_ BK251.out 3).trans rfl, (bC_ BK251.out 4).trans rfl, (bC_ BK251.out 5).trans rfl, (bC_ BK251.out 6).trans rfl, (bC_ BK251.out 7).trans rfl⟩ (fun hHeld => ?_); refine with_tabW lTl.tab9 lTl.bits9 (fun HT_ HW_ => ?_)
                  generalize wc.drew = w99 at BK251 BK264 BK276 HB hHeld ⊢
                  refine take_ (i := 0) (N := some 93) (v := ?_) (a' := ?_) #[true, false, false, false, false, false, false, false, false, false, false, false, false, false, false, false, false, false, false, false, false, false, false, false, false, false, false, false, false, false, false, false] rfl rfl (take_ofW HT_.out HW_.out (by kernel_rfl)) (fun _ _ _ h => h) (Or.inl ⟨by rfl, ?_⟩) hHeld ?_ ?_
                  rotate_left
                  · rintro w' ⟨s0, s1, s2, s3, s4, s5, s6, s7⟩
                    go_simp
                    with_reducible rfl
                  rotate_left
                  · simp only [Act.put, List.setIfInBounds_toArray, List.set_cons_zero, List.set_cons_succ, i64_w, i32_w]
                    rfl
                  refine take_ (i := 2) (N := some 95) (v := ?_) (a' := ?_) #[true, false, true, false, false, false, false, false, false, false, false, false, false, false, false, false, false, false, false, false, false, false, false, false, false, false, false, false, false, false, false, false] rfl rfl (take_ofW HT_.out HW_.out (by kernel_rfl)) (fun _ _ _ h => h) (Or.inl ⟨by rfl, ?_⟩) hHeld ?_ ?_
                  rotate_left
                  · rintro w' ⟨s0, s1, s2, s3, s4, s5, s6, s7⟩
                    go_simp
                    with_reducible rfl
                  rotate_left
                  · simp only [Act.put, List.setIfInBounds_toArray, List.set_cons_zero, List.set_cons_succ, i64_w, i32_w]
                    rfl
                  refine one_ (i := 1) (N := some 94) #[true, true, true, false, false, false, false, false, false, false, false, false, false, false, false, false, false, false, false, false, false, false, false, false, false, false, false, false, false, false, false, false] rfl rfl (one_of HT_.out (by kernel_rfl)) (by decide) (fun K hK => ?_)
                  refine goes_ Tryd.func15 (by kernel_rfl) rfl #[.agg #[.int .u8 a1_0, .int .i64 a1_1, .int .i64 a1_2, .int .i64 a1_3, .int .i64 a1_4, .int .i64 a1_5, .bool a1_6, .int .i64 a1_7]] (by rfl) rfl rfl (by (try simp only [List.map_toArray, List.map_cons, List.map_nil]); first | done | rfl | (simp only [List.length_drop, List.length_take]; rfl)) ?_
                  with_reducible refine (operand_Right.calls kj13 a1_0 a1_1 a1_2 a1_3 a1_4 a1_5 a1_6 a1_7 t288 _ A73.out).mono ?_
                  rintro e w100 ⟨rfl, hb⟩
                  refine ⟨_, rfl, ?_⟩
                  have n0_ := Aside0.mk (blk_below (g := gb251) (o := .cells #[.int .u8 a1_0, .int .i64 a1_1, .int .i64 a1_2, .int .i64 a1_3, .int .i64 a1_4, .int .i64 a1_5, .bool a1_6, .int .i64 a1_7] 23 (0, 0)) (by (with_reducible repeat (first | refine bN_ ?_ _ | refine bD_ ?_ | refine bA_ ?_ _)); exact BK251.out) hb)
                  have n1_ := Aside0.mk (blk_below (g := gb264) (o := .cells #[.int .u8 t254, .int .i64 t255, .int .i64 t256, .int .i64 t257, .int .i64 t258, .int .i64 t259, .bool t260, .int .i64 t261] 23 (0, 0)) (by (with_reducible repeat (first | refine bN_ ?_ _ | refine bD_ ?_ | refine bA_ ?_ _)); exact BK264.out) hb)
                  have n2_ := Aside0.mk (blk_below (g := gb276) (o := .cells #[.int .u8 t266, .int .i64 t267, .int .i64 t268, .int .i64 t269, .int .i64 t270, .int .i64 t271, .bool t272, .int .i64 t273] 23 (0, 0)) (by (with_reducible repeat (first | refine bN_ ?_ _ | refine bD_ ?_ | refine bA_ ?_ _)); exact BK276.out) hb)
                  have n3_ := Aside0.mk (below_step (by repeat (first | (with_reducible first | exact HB.out | apply bX_ | apply bW_ | apply bY_ | refine bS_ ?_ GE251.out | refine bS_ ?_ GE264.out | refine bS_ ?_ GE276.out) | exact HB.out)) hb)
                  clear BK251
                  clear BK264
                  clear BK276
                  clear HB
                  have BK251 := n0_
                  have BK264 := n1_
                  have BK276 := n2_
                  have HB := n3_
                  clear n0_ n1_ n2_ n3_
                  (try clear hb)
                  (try clear hb2)
                  (try clear hk)
                  (try clear hi)
                  refine hK.out _ _ ⟨(bC_ BK251.out 0).trans rfl, (bC_ BK251.out 1).trans rfl, (bC_ BK251.out 2).trans rfl, (bC_ BK251.out 3).trans rfl, (bC_ BK251.out 4).trans rfl, (bC_ BK251.out 5).trans rfl, (bC_ BK251.out 6).trans rfl, (bC_ BK251.out 7).trans rfl⟩ (fun hHeld => ?_)
                  clear hK K
                  refine norm_ (a' := ?_) ?_ ?_
                  rotate_left
                  · show Act.put _ (some 94) _ = _
                    simp only [Act.put, List.setIfInBounds_toArray, List.set_cons_zero, List.set_cons_succ, i64_w, i32_w]
                    rfl
                  refine one_ (i := 3) (N := some 96) #[true, true, true, true, false, false, false, false, false, false, false, false, false, false, false, false, false, false, false, false, false, false, false, false, false, false, false, false, false, false, false, false] rfl rfl (one_of HT_.out (by kernel_rfl)) (by decide) (fun K hK => ?_)
                  refine goes_ Tryd.func10 (by kernel_rfl) rfl #[.agg #[.int .u8 a1_0, .int .i64 a1_1, .int .i64 a1_2, .int .i64 a1_3, .int .i64 a1_4, .int .i64 a1_5, .bool a1_6, .int .i64 a1_7]] (by rfl) rfl rfl (by (try simp only [List.map_toArray, List.map_cons, List.map_nil]); first | done | rfl | (simp only [List.length_drop, List.length_take]; rfl)) ?_
                  with_reducible refine (r8_Right.calls kj13 a1_0 a1_1 a1_2 a1_3 a1_4 a1_5 a1_6 a1_7 t289 _ A74.out).mono ?_
                  rintro e w101 ⟨rfl, hb⟩
                  refine ⟨_, rfl, ?_⟩
                  have n0_ := Aside0.mk (blk_below (g := gb251) (o := .cells #[.int .u8 a1_0, .int .i64 a1_1, .int .i64 a1_2, .int .i64 a1_3, .int .i64 a1_4, .int .i64 a1_5, .bool a1_6, .int .i64 a1_7] 23 (0, 0)) (by (with_reducible repeat (first | refine bN_ ?_ _ | refine bD_ ?_ | refine bA_ ?_ _)); exact BK251.out) hb)
                  have n1_ := Aside0.mk (blk_below (g := gb264) (o := .cells #[.int .u8 t254, .int .i64 t255, .int .i64 t256, .int .i64 t257, .int .i64 t258, .int .i64 t259, .bool t260, .int .i64 t261] 23 (0, 0)) (by (with_reducible repeat (first | refine bN_ ?_ _ | refine bD_ ?_ | refine bA_ ?_ _)); exact BK264.out) hb)
                  have n2_ := Aside0.mk (blk_below (g := gb276) (o := .cells #[.int .u8 t266, .int .i64 t267, .int .i64 t268, .int .i64 t269, .int .i64 t270, .int .i64 t271, .bool t272, .int .i64 t273] 23 (0, 0)) (by (with_reducible repeat (first | refine bN_ ?_ _ | refine bD_ ?_ | refine bA_ ?_ _)); exact BK276.out) hb)
                  have n3_ := Aside0.mk (below_step (by repeat (first | (with_reducible first | exact HB.out | apply bX_ | apply bW_ | apply bY_ | refine bS_ ?_ GE251.out | refine bS_ ?_ GE264.out | refine bS_ ?_ GE276.out) | exact HB.out)) hb)
                  clear BK251
                  clear BK264
                  clear BK276
                  clear HB
                  have BK251 := n0_
                  have BK264 := n1_
                  have BK276 := n2_
                  have HB := n3_
                  clear n0_ n1_ n2_ n3_
                  (try clear hb)
                  (try clear hb2)
                  (try clear hk)
                  (try clear hi)
                  refine hK.out _ _ ⟨(bC_ BK251.out 0).trans rfl, (bC_ BK251.out 1).trans rfl, (bC_ BK251.out 2).trans rfl, (bC_ BK251.out 3).trans rfl, (bC_ BK251.out 4).trans rfl, (bC_ BK251.out 5).trans rfl, (bC_ BK251.out 6).trans rfl, (bC_ BK251.out 7).trans rfl⟩ (fun hHeld => ?_)
                  clear hK K
                  refine norm_ (a' := ?_) ?_ ?_
                  rotate_left
                  · show Act.put _ (some 96) _ = _
                    simp only [Act.put, List.setIfInBounds_toArray, List.set_cons_zero, List.set_cons_succ, i64_w, i32_w]
                    rfl
                  refine pure_ (i := 4) (N := some 97) (v := ?_) (a' := ?_) #[true, true, true, true, true, false, false, false, false, false, false, false, false, false, false, false, false, false, false, false, false, false, false, false, false, false, false, false, false, false, false, false] rfl rfl (any_of HT_.out (by kernel_rfl)) (fun _ _ _ h => h) (Or.inl ⟨by rfl, ?_⟩) ?_ ?_
                  rotate_left
                  · intro w'
                    go_simp
                    with_reducible rfl
                  rotate_left
                  · simp only [Act.put, List.setIfInBounds_toArray, List.set_cons_zero, List.set_cons_succ, i64_w, i32_w]
                    rfl
                  refine pure_ (i := 5) (N := some 98) (v := ?_) (a' := ?_) #[true, true, true, true, true, true, false, false, false, false, false, false, false, false, false, false, false, false, false, false, false, false, false, false, false, false, false, false, false, false, false, false] rfl rfl (any_of HT_.out (by kernel_rfl)) (fun _ _ _ h => h) (Or.inl ⟨by rfl, ?_⟩) ?_ ?_
                  rotate_left
                  · intro w'
                    go_simp
                    with_reducible rfl
                  rotate_left
                  · simp only [Act.put, List.setIfInBounds_toArray, List.set_cons_zero, List.set_cons_succ, i64_w, i32_w]
                    rfl
                  refine take_ (i := 6) (N := some 99) (v := ?_) (a' := ?_) #[true, true, true, true, true, true, true, false, false, false, false, false, false, false, false, false, false, false, false, false, false, false, false, false, false, false, false, false, false, false, false, false] rfl rfl (take_ofW HT_.out HW_.out (by kernel_rfl)) (fun _ _ _ h => h) (Or.inl ⟨by rfl, ?_⟩) hHeld ?_ ?_
                  rotate_left
                  · rintro w' ⟨s0, s1, s2, s3, s4, s5, s6, s7⟩
                    go_simp
                    with_reducible rfl
                  rotate_left
                  · simp only [Act.put, List.setIfInBounds_toArray, List.set_cons_zero, List.set_cons_succ, i64_w, i32_w]
                    rfl
                  refine take_ (i := 8) (N := some 101) (v := ?_) (a' := ?_) #[true, true, true, true, true, true, true, false, true, false, false, false, false, false, false, false, false, false, false, false, false, false, false, false, false, false, false, false, false, false, false, false] rfl rfl (take_ofW HT_.out HW_.out (by kernel_rfl)) (fun _ _ _ h => h) (Or.inl ⟨by rfl, ?_⟩) hHeld ?_ ?_
                  rotate_left
                  · rintro w' ⟨s0, s1, s2, s3, s4, s5, s6, s7⟩
                    go_simp
                    with_reducible rfl
                  rotate_left
                  · simp only [Act.put, List.setIfInBounds_toArray, List.set_cons_zero, List.set_cons_succ, i64_w, i32_w]
                    rfl
                  refine one_ (i := 7) (N := some 100) #[true, true, true, true, true, true, true, true, true, false, false, false, false, false, false, false, false, false, false, false, false, false, false, false, false, false, false, false, false, false, false, false] rfl rfl (one_of HT_.out (by kernel_rfl)) (by decide) (fun K hK => ?_)
                  refine goes_ Tryd.func17 (by kernel_rfl) rfl #[.agg #[.int .u8 a1_0, .int .i64 a1_1, .int .i64 a1_2, .int .i64 a1_3, .int .i64 a1_4, .int .i64 a1_5, .bool a1_6, .int .i64 a1_7]] (by rfl) rfl rfl (by (try simp only [List.map_toArray, List.map_cons, List.map_nil]); first | done | rfl | (simp only [List.length_drop, List.length_take]; rfl)) ?_
                  with_reducible refine (operand_Uses.calls a1_0 a1_1 a1_2 a1_3 a1_4 a1_5 a1_6 a1_7 t290 _ A76.out).mono ?_
                  rintro e w102 ⟨v291, rfl, ho0, hb⟩
                  refine ⟨_, rfl, ?_⟩
                  have n0_ := Aside0.mk (Kd.R_lower ho0 (below_size (by repeat (first | (with_reducible first | exact HB.out | apply bX_ | apply bW_ | apply bY_ | refine bS_ ?_ GE251.out | refine bS_ ?_ GE264.out | refine bS_ ?_ GE276.out) | exact HB.out))))
                  have n1_ := Aside0.mk (blk_below (g := gb251) (o := .cells #[.int .u8 a1_0, .int .i64 a1_1, .int .i64 a1_2, .int .i64 a1_3, .int .i64 a1_4, .int .i64 a1_5, .bool a1_6, .int .i64 a1_7] 23 (0, 0)) (by (with_reducible repeat (first | refine bN_ ?_ _ | refine bD_ ?_ | refine bA_ ?_ _)); exact BK251.out) hb)
                  have n2_ := Aside0.mk (blk_below (g := gb264) (o := .cells #[.int .u8 t254, .int .i64 t255, .int .i64 t256, .int .i64 t257, .int .i64 t258, .int .i64 t259, .bool t260, .int .i64 t261] 23 (0, 0)) (by (with_reducible repeat (first | refine bN_ ?_ _ | refine bD_ ?_ | refine bA_ ?_ _)); exact BK264.out) hb)
                  have n3_ := Aside0.mk (blk_below (g := gb276) (o := .cells #[.int .u8 t266, .int .i64 t267, .int .i64 t268, .int .i64 t269, .int .i64 t270, .int .i64 t271, .bool t272, .int .i64 t273] 23 (0, 0)) (by (with_reducible repeat (first | refine bN_ ?_ _ | refine bD_ ?_ | refine bA_ ?_ _)); exact BK276.out) hb)
                  have n4_ := Aside0.mk (below_step (by repeat (first | (with_reducible first | exact HB.out | apply bX_ | apply bW_ | apply bY_ | refine bS_ ?_ GE251.out | refine bS_ ?_ GE264.out | refine bS_ ?_ GE276.out) | exact HB.out)) hb)
                  clear BK251
                  clear BK264
                  clear BK276
                  clear HB
                  have HO292 := n0_
                  have BK251 := n1_
                  have BK264 := n2_
                  have BK276 := n3_
                  have HB := n4_
                  clear n0_ n1_ n2_ n3_ n4_
                  (try clear hb)
                  (try clear hb2)
                  (try clear hk)
                  (try clear hi)
                  (try clear ho0)
                  refine hK.out _ _ ⟨(bC_ BK251.out 0).trans rfl, (bC_ BK251.out 1).trans rfl, (bC_ BK251.out 2).trans rfl, (bC_ BK251.out 3).trans rfl, (bC_ BK251.out 4).trans rfl, (bC_ BK251.out 5).trans rfl, (bC_ BK251.out 6).trans rfl, (bC_ BK251.out 7).trans rfl⟩ (fun hHeld => ?_)
                  clear hK K
                  refine norm_ (a' := ?_) ?_ ?_
                  rotate_left
                  · show Act.put _ (some 100) _ = _
                    simp only [Act.put, List.setIfInBounds_toArray, List.set_cons_zero, List.set_cons_succ, i64_w, i32_w]
                    rfl
                  refine one_ (i := 9) (N := some 102) #[true, true, true, true, true, true, true, true, true, true, false, false, false, false, false, false, false, false, false, false, false, false, false, false, false, false, false, false, false, false, false, false] rfl rfl (one_of HT_.out (by kernel_rfl)) (by decide) (fun K hK => ?_)
                  refine goes_ Tryd.func18 (by kernel_rfl) rfl #[.agg #[.int .u8 a1_0, .int .i64 a1_1, .int .i64 a1_2, .int .i64 a1_3, .int .i64 a1_4, .int .i64 a1_5, .bool a1_6, .int .i64 a1_7]] (by rfl) rfl rfl (by (try simp only [List.map_toArray, List.map_cons, List.map_nil]); first | done | rfl | (simp only [List.length_drop, List.length_take]; rfl)) ?_
                  with_reducible refine (r8_Uses.calls a1_0 a1_1 a1_2 a1_3 a1_4 a1_5 a1_6 a1_7 t293 _ A77.out).mono ?_
                  rintro e w103 ⟨v294, rfl, ho0, hb⟩
                  refine ⟨_, rfl, ?_⟩
                  have n0_ := Aside0.mk (Kd.R_elder' (by (with_reducible repeat (first | apply Kd.R_alloc | apply Kd.R_drewN | apply Kd.R_drew)); exact HO292.out) (by first | exact Kd.R_base ho0 | exact Kd.R_base (Kd.S_R ho0) | exact Kd.R_base ho0) hb)
                  have n1_ := Aside0.mk (Kd.R_lower (Kd.R_new' ho0 (Kd.R_lt (by (with_reducible repeat (first | apply Kd.R_alloc | apply Kd.R_drewN | apply Kd.R_drew)); exact HO292.out))) (below_size (by repeat (first | (with_reducible first | exact HB.out | apply bX_ | apply bW_ | apply bY_ | refine bS_ ?_ GE251.out | refine bS_ ?_ GE264.out | refine bS_ ?_ GE276.out) | exact HB.out))))
                  have n2_ := Aside0.mk (blk_below (g := gb251) (o := .cells #[.int .u8 a1_0, .int .i64 a1_1, .int .i64 a1_2, .int .i64 a1_3, .int .i64 a1_4, .int .i64 a1_5, .bool a1_6, .int .i64 a1_7] 23 (0, 0)) (by (with_reducible repeat (first | refine bN_ ?_ _ | refine bD_ ?_ | refine bA_ ?_ _)); exact BK251.out) hb)
                  have n3_ := Aside0.mk (blk_below (g := gb264) (o := .cells #[.int .u8 t254, .int .i64 t255, .int .i64 t256, .int .i64 t257, .int .i64 t258, .int .i64 t259, .bool t260, .int .i64 t261] 23 (0, 0)) (by (with_reducible repeat (first | refine bN_ ?_ _ | refine bD_ ?_ | refine bA_ ?_ _)); exact BK264.out) hb)
                  have n4_ := Aside0.mk (blk_below (g := gb276) (o := .cells #[.int .u8 t266, .int .i64 t267, .int .i64 t268, .int .i64 t269, .int .i64 t270, .int .i64 t271, .bool t272, .int .i64 t273] 23 (0, 0)) (by (with_reducible repeat (first | refine bN_ ?_ _ | refine bD_ ?_ | refine bA_ ?_ _)); exact BK276.out) hb)
                  have n5_ := Aside0.mk (below_step (by repeat (first | (with_reducible first | exact HB.out | apply bX_ | apply bW_ | apply bY_ | refine bS_ ?_ GE251.out | refine bS_ ?_ GE264.out | refine bS_ ?_ GE276.out) | exact HB.out)) hb)
                  clear HO292
                  clear BK251
                  clear BK264
                  clear BK276
                  clear HB
                  have HO292 := n0_
                  have HO295 := n1_
                  have BK251 := n2_
                  have BK264 := n3_
                  have BK276 := n4_
                  have HB := n5_
                  clear n0_ n1_ n2_ n3_ n4_ n5_
                  (try clear hb)
                  (try clear hb2)
                  (try clear hk)
                  (try clear hi)
                  (try clear ho0)
                  obtain ⟨Ao104, co104, eo104⟩ := Kd.R_slice HO292.out
                  (first | subst eo104 | (injection eo104 with f1_ f2_ f3_; have f4_ := f1_.symm; have f5_ := f3_.symm; clear f1_ f2_ f3_; subst f4_; subst f5_))
                  obtain ⟨Ao105, co105, eo105⟩ := Kd.R_slice HO295.out
                  (first | subst eo105 | (injection eo105 with f1_ f2_ f3_; have f4_ := f1_.symm; have f5_ := f3_.symm; clear f1_ f2_ f3_; subst f4_; subst f5_))
                  refine hK.out _ _ ⟨(bC_ BK251.out 0).trans rfl, (bC_ BK251.out 1).trans rfl, (bC_ BK251.out 2).trans rfl, (bC_ BK251.out 3).trans rfl, (bC_ BK251.out 4).trans rfl, (bC_ BK251.out 5).trans rfl, (bC_ BK251.out 6).trans rfl, (bC_ BK251.out 7).trans rfl⟩ (fun hHeld => ?_)
                  clear hK K
                  refine norm_ (a' := ?_) ?_ ?_
                  rotate_left
                  · show Act.put _ (some 102) _ = _
                    simp only [Act.put, List.setIfInBounds_toArray, List.set_cons_zero, List.set_cons_succ, i64_w, i32_w]
                    rfl
                  refine one_ (i := 10) (N := some 103) #[true, true, true, true, true, true, true, true, true, true, true, false, false, false, false, false, false, false, false, false, false, false, false, false, false, false, false, false, false, false, false, false] rfl rfl (one_of HT_.out (by kernel_rfl)) (by decide) (fun K hK => ?_)
                  refine goes_ Tryd.func16 (by kernel_rfl) rfl #[.slice Ao104 t290.length co104, .slice Ao105 t293.length co105] (by rfl) rfl rfl (by (try simp only [List.map_toArray, List.map_cons, List.map_nil]); first | done | rfl | (simp only [List.length_drop, List.length_take]; rfl)) ?_
                  with_reducible refine (l8_ints.calls kj13 _ _ t290 _ _ t293 true _ ?side1 ?side2 ?side3 ?side4 A78.out).mono ?_
                  (case side1 => repeat (first | exact (Kd.R_reads' HO292.out).2.2 | (with_reducible refine Kd.C_alloc ?_ _) | (with_reducible refine Kd.C_drewN ?_ _) | (with_reducible refine Kd.C_drew ?_)))
                  (case side2 => exact (Kd.R_reads' HO292.out).2.1)
                  (case side3 => repeat (first | exact (Kd.R_reads' HO295.out).2.2 | (with_reducible refine Kd.C_alloc ?_ _) | (with_reducible refine Kd.C_drewN ?_ _) | (with_reducible refine Kd.C_drew ?_)))
                  (case side4 => exact (Kd.R_reads' HO295.out).2.1)
                  rintro e w' ⟨rfl, ⟨nd, rfl⟩⟩
                  refine ⟨_, rfl, ?_⟩
                  refine hK.out _ _ ⟨(bC_ BK251.out 0).trans rfl, (bC_ BK251.out 1).trans rfl, (bC_ BK251.out 2).trans rfl, (bC_ BK251.out 3).trans rfl, (bC_ BK251.out 4).trans rfl, (bC_ BK251.out 5).trans rfl, (bC_ BK251.out 6).trans rfl, (bC_ BK251.out 7).trans rfl⟩ (fun hHeld => ?_)
                  clear hK K
                  refine norm_ (a' := ?_) ?_ ?_
                  rotate_left
                  · show Act.put _ (some 103) _ = _
                    simp only [Act.put, List.setIfInBounds_toArray, List.set_cons_zero, List.set_cons_succ, i64_w, i32_w]
                    rfl
                  refine pure_ (i := 11) (N := some 104) (v := ?_) (a' := ?_) #[true, true, true, true, true, true, true, true, true, true, true, true, false, false, false, false, false, false, false, false, false, false, false, false, false, false, false, false, false, false, false, false] rfl rfl (any_of HT_.out (by kernel_rfl)) (fun _ _ _ h => h) (Or.inl ⟨by rfl, ?_⟩) ?_ ?_
                  rotate_left
                  · intro w'
                    go_simp
                    with_reducible rfl
                  rotate_left
                  · simp only [Act.put, List.setIfInBounds_toArray, List.set_cons_zero, List.set_cons_succ, i64_w, i32_w]
                    rfl
                  refine pure_ (i := 12) (N := some 105) (v := ?_) (a' := ?_) #[true, true, true, true, true, true, true, true, true, true, true, true, true, false, false, false, false, false, false, false, false, false, false, false, false, false, false, false, false, false, false, false] rfl rfl (any_of HT_.out (by kernel_rfl)) (fun _ _ _ h => h) (Or.inl ⟨by rfl, ?_⟩) ?_ ?_
                  rotate_left
                  · intro w'
                    go_simp
                    with_reducible rfl
                  rotate_left
                  · simp only [Act.put, List.setIfInBounds_toArray, List.set_cons_zero, List.set_cons_succ, i64_w, i32_w]
                    rfl
                  refine pure_ (i := 13) (N := some 106) (v := ?_) (a' := ?_) #[true, true, true, true, true, true, true, true, true, true, true, true, true, true, false, false, false, false, false, false, false, false, false, false, false, false, false, false, false, false, false, false] rfl rfl (any_of HT_.out (by kernel_rfl)) (fun _ _ _ h => h) (Or.inl ⟨by rfl, ?_⟩) ?_ ?_
                  rotate_left
                  · intro w'
                    go_simp
                    with_reducible rfl
                  rotate_left
                  · simp only [Act.put, List.setIfInBounds_toArray, List.set_cons_zero, List.set_cons_succ, i64_w, i32_w]
                    rfl
                  refine pure_ (i := 15) (N := some 108) (v := ?_) (a' := ?_) #[true, true, true, true, true, true, true, true, true, true, true, true, true, true, false, true, false, false, false, false, false, false, false, false, false, false, false, false, false, false, false, false] rfl rfl (any_of HT_.out (by kernel_rfl)) (fun _ _ _ h => h) (Or.inl ⟨by rfl, ?_⟩) ?_ ?_
                  rotate_left
                  · intro w'
                    go_simp
                    with_reducible rfl
                  rotate_left
                  · simp only [Act.put, List.setIfInBounds_toArray, List.set_cons_zero, List.set_cons_succ, i64_w, i32_w]
                    rfl
                  refine one_ (i := 14) (N := some 107) #[true, true, true, true, true, true, true, true, true, true, true, true, true, true, true, true, false, false, false, false, false, false, false, false, false, false, false, false, false, false, false, false] rfl rfl (one_of HT_.out (by kernel_rfl)) (by decide) (fun K hK => ?_)
                  refine goes_ Tryd.func19 (by kernel_rfl) rfl #[.int .i64 a0] (by rfl) rfl rfl (by (try simp only [List.map_toArray, List.map_cons, List.map_nil]); first | done | rfl | (simp only [List.length_drop, List.length_take]; rfl)) ?_
                  with_reducible refine (operand_Reg.calls a0 t297 t298 t299 t300 t301 t302 t303 t304 _ A80.out).mono ?_
                  rintro e w106 ⟨rfl, hb⟩
                  refine ⟨_, rfl, ?_⟩
                  have n0_ := Aside0.mk (Kd.R_below (by (with_reducible repeat (first | apply Kd.R_alloc | apply Kd.R_drewN | apply Kd.R_drew)); exact HO292.out) hb)
                  have n1_ := Aside0.mk (Kd.R_below (by (with_reducible repeat (first | apply Kd.R_alloc | apply Kd.R_drewN | apply Kd.R_drew)); exact HO295.out) hb)
                  have n2_ := Aside0.mk (blk_below (g := gb251) (o := .cells #[.int .u8 a1_0, .int .i64 a1_1, .int .i64 a1_2, .int .i64 a1_3, .int .i64 a1_4, .int .i64 a1_5, .bool a1_6, .int .i64 a1_7] 23 (0, 0)) (by (with_reducible repeat (first | refine bN_ ?_ _ | refine bD_ ?_ | refine bA_ ?_ _)); exact BK251.out) hb)
                  have n3_ := Aside0.mk (blk_below (g := gb264) (o := .cells #[.int .u8 t254, .int .i64 t255, .int .i64 t256, .int .i64 t257, .int .i64 t258, .int .i64 t259, .bool t260, .int .i64 t261] 23 (0, 0)) (by (with_reducible repeat (first | refine bN_ ?_ _ | refine bD_ ?_ | refine bA_ ?_ _)); exact BK264.out) hb)
                  have n4_ := Aside0.mk (blk_below (g := gb276) (o := .cells #[.int .u8 t266, .int .i64 t267, .int .i64 t268, .int .i64 t269, .int .i64 t270, .int .i64 t271, .bool t272, .int .i64 t273] 23 (0, 0)) (by (with_reducible repeat (first | refine bN_ ?_ _ | refine bD_ ?_ | refine bA_ ?_ _)); exact BK276.out) hb)
                  have n5_ := Aside0.mk (below_step (by repeat (first | (with_reducible first | exact HB.out | apply bX_ | apply bW_ | apply bY_ | refine bS_ ?_ GE251.out | refine bS_ ?_ GE264.out | refine bS_ ?_ GE276.out) | exact HB.out)) hb)
                  clear HO292
                  clear HO295
                  clear BK251
                  clear BK264
                  clear BK276
                  clear HB
                  have HO292 := n0_
                  have HO295 := n1_
                  have BK251 := n2_
                  have BK264 := n3_
                  have BK276 := n4_
                  have HB := n5_
                  clear n0_ n1_ n2_ n3_ n4_ n5_
                  (try clear hb)
                  (try clear hb2)
                  (try clear hk)
                  (try clear hi)
                  refine hK.out _ _ ⟨(bC_ BK251.out 0).trans rfl, (bC_ BK251.out 1).trans rfl, (bC_ BK251.out 2).trans rfl, (bC_ BK251.out 3).trans rfl, (bC_ BK251.out 4).trans rfl, (bC_ BK251.out 5).trans rfl, (bC_ BK251.out 6).trans rfl, (bC_ BK251.out 7).trans rfl⟩ (fun hHeld => ?_)
                  clear hK K
                  refine norm_ (a' := ?_) ?_ ?_
                  rotate_left
                  · show Act.put _ (some 107) _ = _
                    simp only [Act.put, List.setIfInBounds_toArray, List.set_cons_zero, List.set_cons_succ, i64_w, i32_w]
                    rfl
                  refine one_ (i := 16) (N := some 109) #[true, true, true, true, true, true, true, true, true, true, true, true, true, true, true, true, true, false, false, false, false, false, false, false, false, false, false, false, false, false, false, false] rfl rfl (one_of HT_.out (by kernel_rfl)) (by decide) (fun K hK => ?_)
                  refine goes_ Tryd.func20 (by kernel_rfl) rfl #[.int .i64 a0] (by rfl) rfl rfl (by (try simp only [List.map_toArray, List.map_cons, List.map_nil]); first | done | rfl | (simp only [List.length_drop, List.length_take]; rfl)) ?_
                  with_reducible refine (r8_Reg.calls a0 t305 t306 t307 t308 t309 t310 t311 t312 _ A81.out).mono ?_
                  rintro e w107 ⟨rfl, hb⟩
                  refine ⟨_, rfl, ?_⟩
                  have n0_ := Aside0.mk (Kd.R_below (by (with_reducible repeat (first | apply Kd.R_alloc | apply Kd.R_drewN | apply Kd.R_drew)); exact HO292.out) hb)
                  have n1_ := Aside0.mk (Kd.R_below (by (with_reducible repeat (first | apply Kd.R_alloc | apply Kd.R_drewN | apply Kd.R_drew)); exact HO295.out) hb)
                  have n2_ := Aside0.mk (blk_below (g := gb251) (o := .cells #[.int .u8 a1_0, .int .i64 a1_1, .int .i64 a1_2, .int .i64 a1_3, .int .i64 a1_4, .int .i64 a1_5, .bool a1_6, .int .i64 a1_7] 23 (0, 0)) (by (with_reducible repeat (first | refine bN_ ?_ _ | refine bD_ ?_ | refine bA_ ?_ _)); exact BK251.out) hb)
                  have n3_ := Aside0.mk (blk_below (g := gb264) (o := .cells #[.int .u8 t254, .int .i64 t255, .int .i64 t256, .int .i64 t257, .int .i64 t258, .int .i64 t259, .bool t260, .int .i64 t261] 23 (0, 0)) (by (with_reducible repeat (first | refine bN_ ?_ _ | refine bD_ ?_ | refine bA_ ?_ _)); exact BK264.out) hb)
                  have n4_ := Aside0.mk (blk_below (g := gb276) (o := .cells #[.int .u8 t266, .int .i64 t267, .int .i64 t268, .int .i64 t269, .int .i64 t270, .int .i64 t271, .bool t272, .int .i64 t273] 23 (0, 0)) (by (with_reducible repeat (first | refine bN_ ?_ _ | refine bD_ ?_ | refine bA_ ?_ _)); exact BK276.out) hb)
                  have n5_ := Aside0.mk (below_step (by repeat (first | (with_reducible first | exact HB.out | apply bX_ | apply bW_ | apply bY_ | refine bS_ ?_ GE251.out | refine bS_ ?_ GE264.out | refine bS_ ?_ GE276.out) | exact HB.out)) hb)
                  clear HO292
                  clear HO295
                  clear BK251
                  clear BK264
                  clear BK276
                  clear HB
                  have HO292 := n0_
                  have HO295 := n1_
                  have BK251 := n2_
                  have BK264 := n3_
                  have BK276 := n4_
                  have HB := n5_
                  clear n0_ n1_ n2_ n3_ n4_ n5_
                  (try clear hb)
                  (try clear hb2)
                  (try clear hk)
                  (try clear hi)
                  refine hK.out _ _ ⟨(bC_ BK251.out 0).trans rfl, (bC_ BK251.out 1).trans rfl, (bC_ BK251.out 2).trans rfl, (bC_ BK251.out 3).trans rfl, (bC_ BK251.out 4).trans rfl, (bC_ BK251.out 5).trans rfl, (bC_ BK251.out 6).trans rfl, (bC_ BK251.out 7).trans rfl⟩ (fun hHeld => ?_)
                  clear hK K
                  refine norm_ (a' := ?_) ?_ ?_
                  rotate_left
                  · show Act.put _ (some 109) _ = _
                    simp only [Act.put, List.setIfInBounds_toArray, List.set_cons_zero, List.set_cons_succ, i64_w, i32_w]
                    rfl
                  refine pure_ (i := 17) (N := some 110) (v := ?_) (a' := ?_) #[true, true, true, true, true, true, true, true, true, true, true, true, true, true, true, true, true, true, false, false, false, false, false, false, false, false, false, false, false, false, false, false] rfl rfl (any_of HT_.out (by kernel_rfl)) (fun _ _ _ h => h) (Or.inl ⟨by rfl, ?_⟩) ?_ ?_
                  rotate_left
                  · intro w'
                    go_simp
                    with_reducible rfl
                  rotate_left
                  · simp only [Act.put, List.setIfInBounds_toArray, List.set_cons_zero, List.set_cons_succ, i64_w, i32_w]
                    rfl
                  refine pure_ (i := 18) (N := some 111) (v := ?_) (a' := ?_) #[true, true, true, true, true, true, true, true, true, true, true, true, true, true, true, true, true, true, true, false, false, false, false, false, false, false, false, false, false, false, false, false] rfl rfl (any_of HT_.out (by kernel_rfl)) (fun _ _ _ h => h) (Or.inl ⟨by rfl, ?_⟩) ?_ ?_
                  rotate_left
                  · intro w'
                    go_simp
                    with_reducible rfl
                  rotate_left
                  · simp only [Act.put, List.setIfInBounds_toArray, List.set_cons_zero, List.set_cons_succ, i64_w, i32_w]
                    rfl
                  refine pure_ (i := 19) (N := some 112) (v := ?_) (a' := ?_) #[true, true, true, true, true, true, true, true, true, true, true, true, true, true, true, true, true, true, true, true, false, false, false, false, false, false, false, false, false, false, false, false] rfl rfl (any_of HT_.out (by kernel_rfl)) (fun _ _ _ h => h) (Or.inl ⟨by rfl, ?_⟩) ?_ ?_
                  rotate_left
                  · intro w'
                    go_simp
                    with_reducible rfl
                  rotate_left
                  · simp only [Act.put, List.setIfInBounds_toArray, List.set_cons_zero, List.set_cons_succ, i64_w, i32_w]
                    rfl
                  refine pure_ (i := 20) (N := some 113) (v := ?_) (a' := ?_) #[true, true, true, true, true, true, true, true, true, true, true, true, true, true, true, true, true, true, true, true, true, false, false, false, false, false, false, false, false, false, false, false] rfl rfl (any_of HT_.out (by kernel_rfl)) (fun _ _ _ h => h) (Or.inl ⟨by rfl, ?_⟩) ?_ ?_
                  rotate_left
                  · intro w'
                    go_simp
                    with_reducible rfl
                  rotate_left
                  · simp only [Act.put, List.setIfInBounds_toArray, List.set_cons_zero, List.set_cons_succ, i64_w, i32_w]
                    rfl
                  refine pure_ (i := 21) (N := some 114) (v := ?_) (a' := ?_) #[true, true, true, true, true, true, true, true, true, true, true, true, true, true, true, true, true, true, true, true, true, true, false, false, false, false, false, false, false, false, false, false] rfl rfl (any_of HT_.out (by kernel_rfl)) (fun _ _ _ h => h) (Or.inl ⟨by rfl, ?_⟩) ?_ ?_
                  rotate_left
                  · intro w'
                    go_simp
                    with_reducible rfl
                  rotate_left
                  · simp only [Act.put, List.setIfInBounds_toArray, List.set_cons_zero, List.set_cons_succ, i64_w, i32_w]
                    rfl
                  refine pure_ (i := 23) (N := some 116) (v := ?_) (a' := ?_) #[true, true, true, true, true, true, true, true, true, true, true, true, true, true, true, true, true, true, true, true, true, true, false, true, false, false, false, false, false, false, false, false] rfl rfl (any_of HT_.out (by kernel_rfl)) (fun _ _ _ h => h) (Or.inl ⟨by rfl, ?_⟩) ?_ ?_
                  rotate_left
                  · intro w'
                    go_simp
                    with_reducible rfl
                  rotate_left
                  · simp only [Act.put, List.setIfInBounds_toArray, List.set_cons_zero, List.set_cons_succ, i64_w, i32_w]
                    rfl
                  refine pure_ (i := 24) (N := some 117) (v := ?_) (a' := ?_) #[true, true, true, true, true, true, true, true, true, true, true, true, true, true, true, true, true, true, true, true, true, true, false, true, true, false, false, false, false, false, false, false] rfl rfl (any_of HT_.out (by kernel_rfl)) (fun _ _ _ h => h) (Or.inl ⟨by rfl, ?_⟩) ?_ ?_
                  rotate_left
                  · intro w'
                    go_simp
                    with_reducible rfl
                  rotate_left
                  · simp only [Act.put, List.setIfInBounds_toArray, List.set_cons_zero, List.set_cons_succ, i64_w, i32_w]
                    rfl
                  refine one_ (i := 22) (N := some 115) #[true, true, true, true, true, true, true, true, true, true, true, true, true, true, true, true, true, true, true, true, true, true, true, true, true, false, false, false, false, false, false, false] rfl rfl (one_of HT_.out (by kernel_rfl)) (by decide) (fun K hK => ?_)
                  refine goes_ Tryd.func21 (by kernel_rfl) rfl #[.int .i64 a0, .int .i64 a4] (by rfl) rfl rfl (by (try simp only [List.map_toArray, List.map_cons, List.map_nil]); first | done | rfl | (simp only [List.length_drop, List.length_take]; rfl)) ?_
                  with_reducible refine (operand_Mem.calls a0 a4 t313 t314 t315 t316 t317 t318 t319 t320 _ A83.out).mono ?_
                  rintro e w108 ⟨rfl, hb⟩
                  refine ⟨_, rfl, ?_⟩
                  have n0_ := Aside0.mk (Kd.R_below (by (with_reducible repeat (first | apply Kd.R_alloc | apply Kd.R_drewN | apply Kd.R_drew)); exact HO292.out) hb)
                  have n1_ := Aside0.mk (Kd.R_below (by (with_reducible repeat (first | apply Kd.R_alloc | apply Kd.R_drewN | apply Kd.R_drew)); exact HO295.out) hb)
                  have n2_ := Aside0.mk (blk_below (g := gb251) (o := .cells #[.int .u8 a1_0, .int .i64 a1_1, .int .i64 a1_2, .int .i64 a1_3, .int .i64 a1_4, .int .i64 a1_5, .bool a1_6, .int .i64 a1_7] 23 (0, 0)) (by (with_reducible repeat (first | refine bN_ ?_ _ | refine bD_ ?_ | refine bA_ ?_ _)); exact BK251.out) hb)
                  have n3_ := Aside0.mk (blk_below (g := gb264) (o := .cells #[.int .u8 t254, .int .i64 t255, .int .i64 t256, .int .i64 t257, .int .i64 t258, .int .i64 t259, .bool t260, .int .i64 t261] 23 (0, 0)) (by (with_reducible repeat (first | refine bN_ ?_ _ | refine bD_ ?_ | refine bA_ ?_ _)); exact BK264.out) hb)
                  have n4_ := Aside0.mk (blk_below (g := gb276) (o := .cells #[.int .u8 t266, .int .i64 t267, .int .i64 t268, .int .i64 t269, .int .i64 t270, .int .i64 t271, .bool t272, .int .i64 t273] 23 (0, 0)) (by (with_reducible repeat (first | refine bN_ ?_ _ | refine bD_ ?_ | refine bA_ ?_ _)); exact BK276.out) hb)
                  have n5_ := Aside0.mk (below_step (by repeat (first | (with_reducible first | exact HB.out | apply bX_ | apply bW_ | apply bY_ | refine bS_ ?_ GE251.out | refine bS_ ?_ GE264.out | refine bS_ ?_ GE276.out) | exact HB.out)) hb)
                  clear HO292
                  clear HO295
                  clear BK251
                  clear BK264
                  clear BK276
                  clear HB
                  have HO292 := n0_
                  have HO295 := n1_
                  have BK251 := n2_
                  have BK264 := n3_
                  have BK276 := n4_
                  have HB := n5_
                  clear n0_ n1_ n2_ n3_ n4_ n5_
                  (try clear hb)
                  (try clear hb2)
                  (try clear hk)
                  (try clear hi)
                  refine hK.out _ _ ⟨(bC_ BK251.out 0).trans rfl, (bC_ BK251.out 1).trans rfl, (bC_ BK251.out 2).trans rfl, (bC_ BK251.out 3).trans rfl, (bC_ BK251.out 4).trans rfl, (bC_ BK251.out 5).trans rfl, (bC_ BK251.out 6).trans rfl, (bC_ BK251.out 7).trans rfl⟩ (fun hHeld => ?_)
                  clear hK K
                  refine norm_ (a' := ?_) ?_ ?_
                  rotate_left
                  · show Act.put _ (some 115) _ = _
                    simp only [Act.put, List.setIfInBounds_toArray, List.set_cons_zero, List.set_cons_succ, i64_w, i32_w]
                    rfl
                  refine one_ (i := 25) (N := some 118) #[true, true, true, true, true, true, true, true, true, true, true, true, true, true, true, true, true, true, true, true, true, true, true, true, true, true, false, false, false, false, false, false] rfl rfl (one_of HT_.out (by kernel_rfl)) (by decide) (fun K hK => ?_)
                  refine goes_ Tryd.func22 (by kernel_rfl) rfl #[.int .i64 a0, .int .i64 a4] (by rfl) rfl rfl (by (try simp only [List.map_toArray, List.map_cons, List.map_nil]); first | done | rfl | (simp only [List.length_drop, List.length_take]; rfl)) ?_
                  with_reducible refine (r8_Mem.calls a0 a4 t321 t322 t323 t324 t325 t326 t327 t328 _ A84.out).mono ?_
                  rintro e w109 ⟨rfl, hb⟩
                  refine ⟨_, rfl, ?_⟩
                  have n0_ := Aside0.mk (Kd.R_below (by (with_reducible repeat (first | apply Kd.R_alloc | apply Kd.R_drewN | apply Kd.R_drew)); exact HO292.out) hb)
                  have n1_ := Aside0.mk (Kd.R_below (by (with_reducible repeat (first | apply Kd.R_alloc | apply Kd.R_drewN | apply Kd.R_drew)); exact HO295.out) hb)
                  have n2_ := Aside0.mk (blk_below (g := gb251) (o := .cells #[.int .u8 a1_0, .int .i64 a1_1, .int .i64 a1_2, .int .i64 a1_3, .int .i64 a1_4, .int .i64 a1_5, .bool a1_6, .int .i64 a1_7] 23 (0, 0)) (by (with_reducible repeat (first | refine bN_ ?_ _ | refine bD_ ?_ | refine bA_ ?_ _)); exact BK251.out) hb)
                  have n3_ := Aside0.mk (blk_below (g := gb264) (o := .cells #[.int .u8 t254, .int .i64 t255, .int .i64 t256, .int .i64 t257, .int .i64 t258, .int .i64 t259, .bool t260, .int .i64 t261] 23 (0, 0)) (by (with_reducible repeat (first | refine bN_ ?_ _ | refine bD_ ?_ | refine bA_ ?_ _)); exact BK264.out) hb)
                  have n4_ := Aside0.mk (blk_below (g := gb276) (o := .cells #[.int .u8 t266, .int .i64 t267, .int .i64 t268, .int .i64 t269, .int .i64 t270, .int .i64 t271, .bool t272, .int .i64 t273] 23 (0, 0)) (by (with_reducible repeat (first | refine bN_ ?_ _ | refine bD_ ?_ | refine bA_ ?_ _)); exact BK276.out) hb)
                  have n5_ := Aside0.mk (below_step (by repeat (first | (with_reducible first | exact HB.out | apply bX_ | apply bW_ | apply bY_ | refine bS_ ?_ GE251.out | refine bS_ ?_ GE264.out | refine bS_ ?_ GE276.out) | exact HB.out)) hb)
                  clear HO292
                  clear HO295
                  clear BK251
                  clear BK264
                  clear BK276
                  clear HB
                  have HO292 := n0_
                  have HO295 := n1_
                  have BK251 := n2_
                  have BK264 := n3_
                  have BK276 := n4_
                  have HB := n5_
                  clear n0_ n1_ n2_ n3_ n4_ n5_
                  (try clear hb)
                  (try clear hb2)
                  (try clear hk)
                  (try clear hi)
                  refine hK.out _ _ ⟨(bC_ BK251.out 0).trans rfl, (bC_ BK251.out 1).trans rfl, (bC_ BK251.out 2).trans rfl, (bC_ BK251.out 3).trans rfl, (bC_ BK251.out 4).trans rfl, (bC_ BK251.out 5).trans rfl, (bC_ BK251.out 6).trans rfl, (bC_ BK251.out 7).trans rfl⟩ (fun hHeld => ?_)
                  clear hK K
                  refine norm_ (a' := ?_) ?_ ?_
                  rotate_left
                  · show Act.put _ (some 118) _ = _
                    simp only [Act.put, List.setIfInBounds_toArray, List.set_cons_zero, List.set_cons_succ, i64_w, i32_w]
                    rfl
                  refine pure_ (i := 26) (N := some 119) (v := ?_) (a' := ?_) #[true, true, true, true, true, true, true, true, true, true, true, true, true, true, true, true, true, true, true, true, true, true, true, true, true, true, true, false, false, false, false, false] rfl rfl (any_of HT_.out (by kernel_rfl)) (fun _ _ _ h => h) (Or.inl ⟨by rfl, ?_⟩) ?_ ?_
                  rotate_left
                  · intro w'
                    go_simp
                    with_reducible rfl
                  rotate_left
                  · simp only [Act.put, List.setIfInBounds_toArray, List.set_cons_zero, List.set_cons_succ, i64_w, i32_w]
                    rfl
                  refine pure_ (i := 27) (N := some 120) (v := ?_) (a' := ?_) #[true, true, true, true, true, true, true, true, true, true, true, true, true, true, true, true, true, true, true, true, true, true, true, true, true, true, true, true, false, false, false, false] rfl rfl (any_of HT_.out (by kernel_rfl)) (fun _ _ _ h => h) (Or.inl ⟨by rfl, ?_⟩) ?_ ?_
                  rotate_left
                  · intro w'
                    go_simp
                    with_reducible rfl
                  rotate_left
                  · simp only [Act.put, List.setIfInBounds_toArray, List.set_cons_zero, List.set_cons_succ, i64_w, i32_w]
                    rfl
                  refine pure_ (i := 28) (N := some 121) (v := ?_) (a' := ?_) #[true, true, true, true, true, true, true, true, true, true, true, true, true, true, true, true, true, true, true, true, true, true, true, true, true, true, true, true, true, false, false, false] rfl rfl (any_of HT_.out (by kernel_rfl)) (fun _ _ _ h => h) (Or.inl ⟨by rfl, ?_⟩) ?_ ?_
                  rotate_left
                  · intro w'
                    go_simp
                    with_reducible rfl
                  rotate_left
                  · simp only [Act.put, List.setIfInBounds_toArray, List.set_cons_zero, List.set_cons_succ, i64_w, i32_w]
                    rfl
                  refine pure_ (i := 29) (N := some 122) (v := undef) (a' := ?_) #[true, true, true, true, true, true, true, true, true, true, true, true, true, true, true, true, true, true, true, true, true, true, true, true, true, true, true, true, true, true, false, false] rfl rfl (any_of HT_.out (by kernel_rfl)) (fun _ _ _ h => h) (Or.inr ⟨by rfl, rfl⟩) ?_ ?_
                  rotate_left
                  · simp only [Act.put, List.setIfInBounds_toArray, List.set_cons_zero, List.set_cons_succ, i64_w, i32_w]
                    rfl
                  refine pure_ (i := 30) (N := some 123) (v := ?_) (a' := ?_) #[true, true, true, true, true, true, true, true, true, true, true, true, true, true, true, true, true, true, true, true, true, true, true, true, true, true, true, true, true, true, true, false] rfl rfl (any_of HT_.out (by kernel_rfl)) (fun _ _ _ h => h) (Or.inl ⟨by rfl, ?_⟩) ?_ ?_
                  rotate_left
                  · intro w'
                    go_simp
                    with_reducible rfl
                  rotate_left
                  · simp only [Act.put, List.setIfInBounds_toArray, List.set_cons_zero, List.set_cons_succ, i64_w, i32_w]
                    rfl
                  refine pure_ (i := 31) (N := some 10) (v := ?_) (a' := ?_) #[true, true, true, true, true, true, true, true, true, true, true, true, true, true, true, true, true, true, true, true, true, true, true, true, true, true, true, true, true, true, true, true] rfl rfl (any_of HT_.out (by kernel_rfl)) (fun _ _ _ h => h) (Or.inl ⟨by rfl, ?_⟩) ?_ ?_
                  rotate_left
                  · intro w'
                    go_simp
                    with_reducible rfl
                  rotate_left
                  · simp only [Act.put, List.setIfInBounds_toArray, List.set_cons_zero, List.set_cons_succ, i64_w, i32_w]
                    rfl
                  refine done_ (done_of HT_.out (by kernel_rfl)) ?_
                  try go_wp2
                  go_ret
                  exact ⟨by first | rfl | (simp [errW_none, errW_some] <;> rfl) | (simp [*, errW_none, errW_some] <;> rfl), by repeat (first | (with_reducible first | exact HB.out | apply bX_ | apply bW_ | apply bY_ | refine bS_ ?_ GE251.out | refine bS_ ?_ GE264.out | refine bS_ ?_ GE276.out) | exact HB.out)⟩
              · rw [if_neg c82] at H
                have c82b0 : (t297 == t305 && (t298 == t306 && (t299 == t307 && (t300 == t308 && (t301 == t309 && (t302 == t310 && (t303 == t311 && (t304 == t312)))))))) = false := by simpa using c82
                (try (have c82b1 : decide (t297 = t305 && (t298 == t306 && (t299 == t307 && (t300 == t308 && (t301 == t309 && (t302 == t310 && (t303 == t311 && (t304 == t312)))))))) = false := by simpa using c82))
                (try (have c82b2 : (t297 == t305 && (t298 == t306 && (t299 == t307 && (t300 == t308 && (t301 == t309 && (t302 == t310 && (t303 == t311 && (t304 == t312)))))))) = false := by simpa using c82))
                (try (have c82b3 : ¬ (t297 = t305 && (t298 == t306 && (t299 == t307 && (t300 == t308 && (t301 == t309 && (t302 == t310 && (t303 == t311 && (t304 == t312)))))))) := by simpa using c82))
                clear c82
                obtain rfl := Option.some.inj H
                try go_wp2
                have n0_ := Aside0.mk (bD_ BK251.out)
                have n1_ := Aside0.mk (bD_ BK264.out)
                have n2_ := Aside0.mk (bD_ BK276.out)
                have n3_ := Aside0.mk (bY_ HB.out)
                clear BK251
                clear BK264
                clear BK276
                clear HB
                have BK251 := n0_
                have BK264 := n1_
                have BK276 := n2_
                have HB := n3_
                clear n0_ n1_ n2_ n3_
                refine start_ (n := 32) (S := fun w' => w'.cell? ⟨gb251, 0, none⟩ = some (.int .u8 a1_0) ∧ w'.cell? ⟨gb251, 1, none⟩ = some (.int .i64 a1_1) ∧ w'.cell? ⟨gb251, 2, none⟩ = some (.int .i64 a1_2) ∧ w'.cell? ⟨gb251, 3, none⟩ = some (.int .i64 a1_3) ∧ w'.cell? ⟨gb251, 4, none⟩ = some (.int .i64 a1_4) ∧ w'.cell? ⟨gb251, 5, none⟩ = some (.int .i64 a1_5) ∧ w'.cell? ⟨gb251, 6, none⟩ = some (.bool a1_6) ∧ w'.cell? ⟨gb251, 7, none⟩ = some (.int .i64 a1_7)) (ds := []) #[false, false, false, false, false, false, false, false, false, false, false, false, false, false, false, false, false, false, false, false, false, false, false, false, false, false, false, false, false, false, false, false] (by kernel_rfl) rfl rfl ⟨(bC_ BK251.out 0).trans rfl, (bC_ BK251.out 1).trans rfl, (bC_ BK251.out 2).trans rfl, (bC_ BK251.out 3).trans rfl, (bC_ BK251.out 4).trans rfl, (bC_ BK251.out 5).trans rfl, (bC_ BK251.out 6).trans rfl, (bC_ BK251.out 7).trans rfl⟩ (fun hHeld => ?_); refine with_tabW lTl.tab9 lTl.bits9 (fun HT_ HW_ => ?_)
                generalize wc.drew = w110 at BK251 BK264 BK276 HB hHeld ⊢
                refine take_ (i := 0) (N := some 93) (v := ?_) (a' := ?_) #[true, false, false, false, false, false, false, false, false, false, false, false, false, false, false, false, false, false, false, false, false, false, false, false, false, false, false, false, false, false, false, false] rfl rfl (take_ofW HT_.out HW_.out (by kernel_rfl)) (fun _ _ _ h => h) (Or.inl ⟨by rfl, ?_⟩) hHeld ?_ ?_
                rotate_left
                · rintro w' ⟨s0, s1, s2, s3, s4, s5, s6, s7⟩
                  go_simp
                  with_reducible rfl
                rotate_left
                · simp only [Act.put, List.setIfInBounds_toArray, List.set_cons_zero, List.set_cons_succ, i64_w, i32_w]
                  rfl
                refine take_ (i := 2) (N := some 95) (v := ?_) (a' := ?_) #[true, false, true, false, false, false, false, false, false, false, false, false, false, false, false, false, false, false, false, false, false, false, false, false, false, false, false, false, false, false, false, false] rfl rfl (take_ofW HT_.out HW_.out (by kernel_rfl)) (fun _ _ _ h => h) (Or.inl ⟨by rfl, ?_⟩) hHeld ?_ ?_
                rotate_left
                · rintro w' ⟨s0, s1, s2, s3, s4, s5, s6, s7⟩
                  go_simp
                  with_reducible rfl
                rotate_left
                · simp only [Act.put, List.setIfInBounds_toArray, List.set_cons_zero, List.set_cons_succ, i64_w, i32_w]
                  rfl
                refine one_ (i := 1) (N := some 94) #[true, true, true, false, false, false, false, false, false, false, false, false, false, false, false, false, false, false, false, false, false, false, false, false, false, false, false, false, false, false, false, false] rfl rfl (one_of HT_.out (by kernel_rfl)) (by decide) (fun K hK => ?_)
                refine goes_ Tryd.func15 (by kernel_rfl) rfl #[.agg #[.int .u8 a1_0, .int .i64 a1_1, .int .i64 a1_2, .int .i64 a1_3, .int .i64 a1_4, .int .i64 a1_5, .bool a1_6, .int .i64 a1_7]] (by rfl) rfl rfl (by (try simp only [List.map_toArray, List.map_cons, List.map_nil]); first | done | rfl | (simp only [List.length_drop, List.length_take]; rfl)) ?_
                with_reducible refine (operand_Right.calls kj13 a1_0 a1_1 a1_2 a1_3 a1_4 a1_5 a1_6 a1_7 t288 _ A73.out).mono ?_
                rintro e w111 ⟨rfl, hb⟩
                refine ⟨_, rfl, ?_⟩
                have n0_ := Aside0.mk (blk_below (g := gb251) (o := .cells #[.int .u8 a1_0, .int .i64 a1_1, .int .i64 a1_2, .int .i64 a1_3, .int .i64 a1_4, .int .i64 a1_5, .bool a1_6, .int .i64 a1_7] 23 (0, 0)) (by (with_reducible repeat (first | refine bN_ ?_ _ | refine bD_ ?_ | refine bA_ ?_ _)); exact BK251.out) hb)
                have n1_ := Aside0.mk (blk_below (g := gb264) (o := .cells #[.int .u8 t254, .int .i64 t255, .int .i64 t256, .int .i64 t257, .int .i64 t258, .int .i64 t259, .bool t260, .int .i64 t261] 23 (0, 0)) (by (with_reducible repeat (first | refine bN_ ?_ _ | refine bD_ ?_ | refine bA_ ?_ _)); exact BK264.out) hb)
                have n2_ := Aside0.mk (blk_below (g := gb276) (o := .cells #[.int .u8 t266, .int .i64 t267, .int .i64 t268, .int .i64 t269, .int .i64 t270, .int .i64 t271, .bool t272, .int .i64 t273] 23 (0, 0)) (by (with_reducible repeat (first | refine bN_ ?_ _ | refine bD_ ?_ | refine bA_ ?_ _)); exact BK276.out) hb)
                have n3_ := Aside0.mk (below_step (by repeat (first | (with_reducible first | exact HB.out | apply bX_ | apply bW_ | apply bY_ | refine bS_ ?_ GE251.out | refine bS_ ?_ GE264.out | refine bS_ ?_ GE276.out) | exact HB.out)) hb)
                clear BK251
                clear BK264
                clear BK276
                clear HB
                have BK251 := n0_
                have BK264 := n1_
                have BK276 := n2_
                have HB := n3_
                clear n0_ n1_ n2_ n3_
                (try clear hb)
                (try clear hb2)
                (try clear hk)
                (try clear hi)
                refine hK.out _ _ ⟨(bC_ BK251.out 0).trans rfl, (bC_ BK251.out 1).trans rfl, (bC_ BK251.out 2).trans rfl, (bC_ BK251.out 3).trans rfl, (bC_ BK251.out 4).trans rfl, (bC_ BK251.out 5).trans rfl, (bC_ BK251.out 6).trans rfl, (bC_ BK251.out 7).trans rfl⟩ (fun hHeld => ?_)
                clear hK K
                refine norm_ (a' := ?_) ?_ ?_
                rotate_left
                · show Act.put _ (some 94) _ = _
                  simp only [Act.put, List.setIfInBounds_toArray, List.set_cons_zero, List.set_cons_succ, i64_w, i32_w]
                  rfl
                refine one_ (i := 3) (N := some 96) #[true, true, true, true, false, false, false, false, false, false, false, false, false, false, false, false, false, false, false, false, false, false, false, false, false, false, false, false, false, false, false, false] rfl rfl (one_of HT_.out (by kernel_rfl)) (by decide) (fun K hK => ?_)
                refine goes_ Tryd.func10 (by kernel_rfl) rfl #[.agg #[.int .u8 a1_0, .int .i64 a1_1, .int .i64 a1_2, .int .i64 a1_3, .int .i64 a1_4, .int .i64 a1_5, .bool a1_6, .int .i64 a1_7]] (by rfl) rfl rfl (by (try simp only [List.map_toArray, List.map_cons, List.map_nil]); first | done | rfl | (simp only [List.length_drop, List.length_take]; rfl)) ?_
                with_reducible refine (r8_Right.calls kj13 a1_0 a1_1 a1_2 a1_3 a1_4 a1_5 a1_6 a1_7 t289 _ A74.out).mono ?_
                rintro e w112 ⟨rfl, hb⟩
                refine ⟨_, rfl, ?_⟩
                have n0_ := Aside0.mk (blk_below (g := gb251) (o := .cells #[.int .u8 a1_0, .int .i64 a1_1, .int .i64 a1_2, .int .i64 a1_3, .int .i64 a1_4, .int .i64 a1_5, .bool a1_6, .int .i64 a1_7] 23 (0, 0)) (by (with_reducible repeat (first | refine bN_ ?_ _ | refine bD_ ?_ | refine bA_ ?_ _)); exact BK251.out) hb)
                have n1_ := Aside0.mk (blk_below (g := gb264) (o := .cells #[.int .u8 t254, .int .i64 t255, .int .i64 t256, .int .i64 t257, .int .i64 t258, .int .i64 t259, .bool t260, .int .i64 t261] 23 (0, 0)) (by (with_reducible repeat (first | refine bN_ ?_ _ | refine bD_ ?_ | refine bA_ ?_ _)); exact BK264.out) hb)
                have n2_ := Aside0.mk (blk_below (g := gb276) (o := .cells #[.int .u8 t266, .int .i64 t267, .int .i64 t268, .int .i64 t269, .int .i64 t270, .int .i64 t271, .bool t272, .int .i64 t273] 23 (0, 0)) (by (with_reducible repeat (first | refine bN_ ?_ _ | refine bD_ ?_ | refine bA_ ?_ _)); exact BK276.out) hb)
                have n3_ := Aside0.mk (below_step (by repeat (first | (with_reducible first | exact HB.out | apply bX_ | apply bW_ | apply bY_ | refine bS_ ?_ GE251.out | refine bS_ ?_ GE264.out | refine bS_ ?_ GE276.out) | exact HB.out)) hb)
                clear BK251
                clear BK264
                clear BK276
                clear HB
                have BK251 := n0_
                have BK264 := n1_
                have BK276 := n2_
                have HB := n3_
                clear n0_ n1_ n2_ n3_
                (try clear hb)
                (try clear hb2)
                (try clear hk)
                (try clear hi)
                refine hK.out _ _ ⟨(bC_ BK251.out 0).trans rfl, (bC_ BK251.out 1).trans rfl, (bC_ BK251.out 2).trans rfl, (bC_ BK251.out 3).trans rfl, (bC_ BK251.out 4).trans rfl, (bC_ BK251.out 5).trans rfl, (bC_ BK251.out 6).trans rfl, (bC_ BK251.out 7).trans rfl⟩ (fun hHeld => ?_)
                clear hK K
                refine norm_ (a' := ?_) ?_ ?_
                rotate_left
                · show Act.put _ (some 96) _ = _
                  simp only [Act.put, List.setIfInBounds_toArray, List.set_cons_zero, List.set_cons_succ, i64_w, i32_w]
                  rfl
                refine pure_ (i := 4) (N := some 97) (v := ?_) (a' := ?_) #[true, true, true, true, true, false, false, false, false, false, false, false, false, false, false, false, false, false, false, false, false, false, false, false, false, false, false, false, false, false, false, false] rfl rfl (any_of HT_.out (by kernel_rfl)) (fun _ _ _ h => h) (Or.inl ⟨by rfl, ?_⟩) ?_ ?_
                rotate_left
                · intro w'
                  go_simp
                  with_reducible rfl
                rotate_left
                · simp only [Act.put, List.setIfInBounds_toArray, List.set_cons_zero, List.set_cons_succ, i64_w, i32_w]
                  rfl
                refine pure_ (i := 5) (N := some 98) (v := ?_) (a' := ?_) #[true, true, true, true, true, true, false, false, false, false, false, false, false, false, false, false, false, false, false, false, false, false, false, false, false, false, false, false, false, false, false, false] rfl rfl (any_of HT_.out (by kernel_rfl)) (fun _ _ _ h => h) (Or.inl ⟨by rfl, ?_⟩) ?_ ?_
                rotate_left
                · intro w'
                  go_simp
                  with_reducible rfl
                rotate_left
                · simp only [Act.put, List.setIfInBounds_toArray, List.set_cons_zero, List.set_cons_succ, i64_w, i32_w]
                  rfl
                refine take_ (i := 6) (N := some 99) (v := ?_) (a' := ?_) #[true, true, true, true, true, true, true, false, false, false, false, false, false, false, false, false, false, false, false, false, false, false, false, false, false, false, false, false, false, false, false, false] rfl rfl (take_ofW HT_.out HW_.out (by kernel_rfl)) (fun _ _ _ h => h) (Or.inl ⟨by rfl, ?_⟩) hHeld ?_ ?_
                rotate_left
                · rintro w' ⟨s0, s1, s2, s3, s4, s5, s6, s7⟩
                  go_simp
                  with_reducible rfl
                rotate_left
                · simp only [Act.put, List.setIfInBounds_toArray, List.set_cons_zero, List.set_cons_succ, i64_w, i32_w]
                  rfl
                refine take_ (i := 8) (N := some 101) (v := ?_) (a' := ?_) #[true, true, true, true, true, true, true, false, true, false, false, false, false, false, false, false, false, false, false, false, false, false, false, false, false, false, false, false, false, false, false, false] rfl rfl (take_ofW HT_.out HW_.out (by kernel_rfl)) (fun _ _ _ h => h) (Or.inl ⟨by rfl, ?_⟩) hHeld ?_ ?_
                rotate_left
                · rintro w' ⟨s0, s1, s2, s3, s4, s5, s6, s7⟩
                  go_simp
                  with_reducible rfl
                rotate_left
                · simp only [Act.put, List.setIfInBounds_toArray, List.set_cons_zero, List.set_cons_succ, i64_w, i32_w]
                  rfl
                refine one_ (i := 7) (N := some 100) #[true, true, true, true, true, true, true, true, true, false, false, false, false, false, false, false, false, false, false, false, false, false, false, false, false, false, false, false, false, false, false, false] rfl rfl (one_of HT_.out (by kernel_rfl)) (by decide) (fun K hK => ?_)
                refine goes_ Tryd.func17 (by kernel_rfl) rfl #[.agg #[.int .u8 a1_0, .int .i64 a1_1, .int .i64 a1_2, .int .i64 a1_3, .int .i64 a1_4, .int .i64 a1_5, .bool a1_6, .int .i64 a1_7]] (by rfl) rfl rfl (by (try simp only [List.map_toArray, List.map_cons, List.map_nil]); first | done | rfl | (simp only [List.length_drop, List.length_take]; rfl)) ?_
                with_reducible refine (operand_Uses.calls a1_0 a1_1 a1_2 a1_3 a1_4 a1_5 a1_6 a1_7 t290 _ A76.out).mono ?_
                rintro e w113 ⟨v291, rfl, ho0, hb⟩
                refine ⟨_, rfl, ?_⟩
                have n0_ := Aside0.mk (Kd.R_lower ho0 (below_size (by repeat (first | (with_reducible first | exact HB.out | apply bX_ | apply bW_ | apply bY_ | refine bS_ ?_ GE251.out | refine bS_ ?_ GE264.out | refine bS_ ?_ GE276.out) | exact HB.out))))
                have n1_ := Aside0.mk (blk_below (g := gb251) (o := .cells #[.int .u8 a1_0, .int .i64 a1_1, .int .i64 a1_2, .int .i64 a1_3, .int .i64 a1_4, .int .i64 a1_5, .bool a1_6, .int .i64 a1_7] 23 (0, 0)) (by (with_reducible repeat (first | refine bN_ ?_ _ | refine bD_ ?_ | refine bA_ ?_ _)); exact BK251.out) hb)
                have n2_ := Aside0.mk (blk_below (g := gb264) (o := .cells #[.int .u8 t254, .int .i64 t255, .int .i64 t256, .int .i64 t257, .int .i64 t258, .int .i64 t259, .bool t260, .int .i64 t261] 23 (0, 0)) (by (with_reducible repeat (first | refine bN_ ?_ _ | refine bD_ ?_ | refine bA_ ?_ _)); exact BK264.out) hb)
                have n3_ := Aside0.mk (blk_below (g := gb276) (o := .cells #[.int .u8 t266, .int .i64 t267, .int .i64 t268, .int .i64 t269, .int .i64 t270, .int .i64 t271, .bool t272, .int .i64 t273] 23 (0, 0)) (by (with_reducible repeat (first | refine bN_ ?_ _ | refine bD_ ?_ | refine bA_ ?_ _)); exact BK276.out) hb)
                have n4_ := Aside0.mk (below_step (by repeat (first | (with_reducible first | exact HB.out | apply bX_ | apply bW_ | apply bY_ | refine bS_ ?_ GE251.out | refine bS_ ?_ GE264.out | refine bS_ ?_ GE276.out) | exact HB.out)) hb)
                clear BK251
                clear BK264
                clear BK276
                clear HB
                have HO292 := n0_
                have BK251 := n1_
                have BK264 := n2_
                have BK276 := n3_
                have HB := n4_
                clear n0_ n1_ n2_ n3_ n4_
                (try clear hb)
                (try clear hb2)
                (try clear hk)
                (try clear hi)
                (try clear ho0)
                refine hK.out _ _ ⟨(bC_ BK251.out 0).trans rfl, (bC_ BK251.out 1).trans rfl, (bC_ BK251.out 2).trans rfl, (bC_ BK251.out 3).trans rfl, (bC_ BK251.out 4).trans rfl, (bC_ BK251.out 5).trans rfl, (bC_ BK251.out 6).trans rfl, (bC_ BK251.out 7).trans rfl⟩ (fun hHeld => ?_)
                clear hK K
                refine norm_ (a' := ?_) ?_ ?_
                rotate_left
                · show Act.put _ (some 100) _ = _
                  simp only [Act.put, List.setIfInBounds_toArray, List.set_cons_zero, List.set_cons_succ, i64_w, i32_w]
                  rfl
                refine one_ (i := 9) (N := some 102) #[true, true, true, true, true, true, true, true, true, true, false, false, false, false, false, false, false, false, false, false, false, false, false, false, false, false, false, false, false, false, false, false] rfl rfl (one_of HT_.out (by kernel_rfl)) (by decide) (fun K hK => ?_)
                refine goes_ Tryd.func18 (by kernel_rfl) rfl #[.agg #[.int .u8 a1_0, .int .i64 a1_1, .int .i64 a1_2, .int .i64 a1_3, .int .i64 a1_4, .int .i64 a1_5, .bool a1_6, .int .i64 a1_7]] (by rfl) rfl rfl (by (try simp only [List.map_toArray, List.map_cons, List.map_nil]); first | done | rfl | (simp only [List.length_drop, List.length_take]; rfl)) ?_
                with_reducible refine (r8_Uses.calls a1_0 a1_1 a1_2 a1_3 a1_4 a1_5 a1_6 a1_7 t293 _ A77.out).mono ?_
                rintro e w114 ⟨v294, rfl, ho0, hb⟩
                refine ⟨_, rfl, ?_⟩
                have n0_ := Aside0.mk (Kd.R_elder' (by (with_reducible repeat (first | apply Kd.R_alloc | apply Kd.R_drewN | apply Kd.R_drew)); exact HO292.out) (by first | exact Kd.R_base ho0 | exact Kd.R_base (Kd.S_R ho0) | exact Kd.R_base ho0) hb)
                have n1_ := Aside0.mk (Kd.R_lower (Kd.R_new' ho0 (Kd.R_lt (by (with_reducible repeat (first | apply Kd.R_alloc | apply Kd.R_drewN | apply Kd.R_drew)); exact HO292.out))) (below_size (by repeat (first | (with_reducible first | exact HB.out | apply bX_ | apply bW_ | apply bY_ | refine bS_ ?_ GE251.out | refine bS_ ?_ GE264.out | refine bS_ ?_ GE276.out) | exact HB.out))))
                have n2_ := Aside0.mk (blk_below (g := gb251) (o := .cells #[.int .u8 a1_0, .int .i64 a1_1, .int .i64 a1_2, .int .i64 a1_3, .int .i64 a1_4, .int .i64 a1_5, .bool a1_6, .int .i64 a1_7] 23 (0, 0)) (by (with_reducible repeat (first | refine bN_ ?_ _ | refine bD_ ?_ | refine bA_ ?_ _)); exact BK251.out) hb)
                have n3_ := Aside0.mk (blk_below (g := gb264) (o := .cells #[.int .u8 t254, .int .i64 t255, .int .i64 t256, .int .i64 t257, .int .i64 t258, .int .i64 t259, .bool t260, .int .i64 t261] 23 (0, 0)) (by (with_reducible repeat (first | refine bN_ ?_ _ | refine bD_ ?_ | refine bA_ ?_ _)); exact BK264.out) hb)
                have n4_ := Aside0.mk (blk_below (g := gb276) (o := .cells #[.int .u8 t266, .int .i64 t267, .int .i64 t268, .int .i64 t269, .int .i64 t270, .int .i64 t271, .bool t272, .int .i64 t273] 23 (0, 0)) (by (with_reducible repeat (first | refine bN_ ?_ _ | refine bD_ ?_ | refine bA_ ?_ _)); exact BK276.out) hb)
                have n5_ := Aside0.mk (below_step (by repeat (first | (with_reducible first | exact HB.out | apply bX_ | apply bW_ | apply bY_ | refine bS_ ?_ GE251.out | refine bS_ ?_ GE264.out | refine bS_ ?_ GE276.out) | exact HB.out)) hb)
                clear HO292
                clear BK251
                clear BK264
                clear BK276
                clear HB
                have HO292 := n0_
                have HO295 := n1_
                have BK251 := n2_
                have BK264 := n3_
                have BK276 := n4_
                have HB := n5_
                clear n0_ n1_ n2_ n3_ n4_ n5_
                (try clear hb)
                (try clear hb2)
                (try clear hk)
                (try clear hi)
                (try clear ho0)
                obtain ⟨Ao115, co115, eo115⟩ := Kd.R_slice HO292.out
                (first | subst eo115 | (injection eo115 with f1_ f2_ f3_; have f4_ := f1_.symm; have f5_ := f3_.symm; clear f1_ f2_ f3_; subst f4_; subst f5_))
                obtain ⟨Ao116, co116, eo116⟩ := Kd.R_slice HO295.out
                (first | subst eo116 | (injection eo116 with f1_ f2_ f3_; have f4_ := f1_.symm; have f5_ := f3_.symm; clear f1_ f2_ f3_; subst f4_; subst f5_))
                refine hK.out _ _ ⟨(bC_ BK251.out 0).trans rfl, (bC_ BK251.out 1).trans rfl, (bC_ BK251.out 2).trans rfl, (bC_ BK251.out 3).trans rfl, (bC_ BK251.out 4).trans rfl, (bC_ BK251.out 5).trans rfl, (bC_ BK251.out 6).trans rfl, (bC_ BK251.out 7).trans rfl⟩ (fun hHeld => ?_)
                clear hK K
                refine norm_ (a' := ?_) ?_ ?_
                rotate_left
                · show Act.put _ (some 102) _ = _
                  simp only [Act.put, List.setIfInBounds_toArray, List.set_cons_zero, List.set_cons_succ, i64_w, i32_w]
                  rfl
                refine one_ (i := 10) (N := some 103) #[true, true, true, true, true, true, true, true, true, true, true, false, false, false, false, false, false, false, false, false, false, false, false, false, false, false, false, false, false, false, false, false] rfl rfl (one_of HT_.out (by kernel_rfl)) (by decide) (fun K hK => ?_)
                refine goes_ Tryd.func16 (by kernel_rfl) rfl #[.slice Ao115 t290.length co115, .slice Ao116 t293.length co116] (by rfl) rfl rfl (by (try simp only [List.map_toArray, List.map_cons, List.map_nil]); first | done | rfl | (simp only [List.length_drop, List.length_take]; rfl)) ?_
                with_reducible refine (l8_ints.calls kj13 _ _ t290 _ _ t293 true _ ?side1 ?side2 ?side3 ?side4 A78.out).mono ?_
                (case side1 => repeat (first | exact (Kd.R_reads' HO292.out).2.2 | (with_reducible refine Kd.C_alloc ?_ _) | (with_reducible refine Kd.C_drewN ?_ _) | (with_reducible refine Kd.C_drew ?_)))
                (case side2 => exact (Kd.R_reads' HO292.out).2.1)
                (case side3 => repeat (first | exact (Kd.R_reads' HO295.out).2.2 | (with_reducible refine Kd.C_alloc ?_ _) | (with_reducible refine Kd.C_drewN ?_ _) | (with_reducible refine Kd.C_drew ?_)))
                (case side4 => exact (Kd.R_reads' HO295.out).2.1)
                rintro e w' ⟨rfl, ⟨nd, rfl⟩⟩
                refine ⟨_, rfl, ?_⟩
                refine hK.out _ _ ⟨(bC_ BK251.out 0).trans rfl, (bC_ BK251.out 1).trans rfl, (bC_ BK251.out 2).trans rfl, (bC_ BK251.out 3).trans rfl, (bC_ BK251.out 4).trans rfl, (bC_ BK251.out 5).trans rfl, (bC_ BK251.out 6).trans rfl, (bC_ BK251.out 7).trans rfl⟩ (fun hHeld => ?_)
                clear hK K
                refine norm_ (a' := ?_) ?_ ?_
                rotate_left
                · show Act.put _ (some 103) _ = _
                  simp only [Act.put, List.setIfInBounds_toArray, List.set_cons_zero, List.set_cons_succ, i64_w, i32_w]
                  rfl
                refine pure_ (i := 11) (N := some 104) (v := ?_) (a' := ?_) #[true, true, true, true, true, true, true, true, true, true, true, true, false, false, false, false, false, false, false, false, false, false, false, false, false, false, false, false, false, false, false, false] rfl rfl (any_of HT_.out (by kernel_rfl)) (fun _ _ _ h => h) (Or.inl ⟨by rfl, ?_⟩) ?_ ?_
                rotate_left
                · intro w'
                  go_simp
                  with_reducible rfl
                rotate_left
                · simp only [Act.put, List.setIfInBounds_toArray, List.set_cons_zero, List.set_cons_succ, i64_w, i32_w]
                  rfl
                refine pure_ (i := 12) (N := some 105) (v := ?_) (a' := ?_) #[true, true, true, true, true, true, true, true, true, true, true, true, true, false, false, false, false, false, false, false, false, false, false, false, false, false, false, false, false, false, false, false] rfl rfl (any_of HT_.out (by kernel_rfl)) (fun _ _ _ h => h) (Or.inl ⟨by rfl, ?_⟩) ?_ ?_
                rotate_left
                · intro w'
                  go_simp
                  with_reducible rfl
                rotate_left
                · simp only [Act.put, List.setIfInBounds_toArray, List.set_cons_zero, List.set_cons_succ, i64_w, i32_w]
                  rfl
                refine pure_ (i := 13) (N := some 106) (v := ?_) (a' := ?_) #[true, true, true, true, true, true, true, true, true, true, true, true, true, true, false, false, false, false, false, false, false, false, false, false, false, false, false, false, false, false, false, false] rfl rfl (any_of HT_.out (by kernel_rfl)) (fun _ _ _ h => h) (Or.inl ⟨by rfl, ?_⟩) ?_ ?_
                rotate_left
                · intro w'
                  go_simp
                  with_reducible rfl
                rotate_left
                · simp only [Act.put, List.setIfInBounds_toArray, List.set_cons_zero, List.set_cons_succ, i64_w, i32_w]
                  rfl
                refine pure_ (i := 15) (N := some 108) (v := ?_) (a' := ?_) #[true, true, true, true, true, true, true, true, true, true, true, true, true, true, false, true, false, false, false, false, false, false, false, false, false, false, false, false, false, false, false, false] rfl rfl (any_of HT_.out (by kernel_rfl)) (fun _ _ _ h => h) (Or.inl ⟨by rfl, ?_⟩) ?_ ?_
                rotate_left
                · intro w'
                  go_simp
                  with_reducible rfl
                rotate_left
                · simp only [Act.put, List.setIfInBounds_toArray, List.set_cons_zero, List.set_cons_succ, i64_w, i32_w]
                  rfl
                refine one_ (i := 14) (N := some 107) #[true, true, true, true, true, true, true, true, true, true, true, true, true, true, true, true, false, false, false, false, false, false, false, false, false, false, false, false, false, false, false, false] rfl rfl (one_of HT_.out (by kernel_rfl)) (by decide) (fun K hK => ?_)
                refine goes_ Tryd.func19 (by kernel_rfl) rfl #[.int .i64 a0] (by rfl) rfl rfl (by (try simp only [List.map_toArray, List.map_cons, List.map_nil]); first | done | rfl | (simp only [List.length_drop, List.length_take]; rfl)) ?_
                with_reducible refine (operand_Reg.calls a0 t297 t298 t299 t300 t301 t302 t303 t304 _ A80.out).mono ?_
                rintro e w117 ⟨rfl, hb⟩
                refine ⟨_, rfl, ?_⟩
                have n0_ := Aside0.mk (Kd.R_below (by (with_reducible repeat (first | apply Kd.R_alloc | apply Kd.R_drewN | apply Kd.R_drew)); exact HO292.out) hb)
                have n1_ := Aside0.mk (Kd.R_below (by (with_reducible repeat (first | apply Kd.R_alloc | apply Kd.R_drewN | apply Kd.R_drew)); exact HO295.out) hb)
                have n2_ := Aside0.mk (blk_below (g := gb251) (o := .cells #[.int .u8 a1_0, .int .i64 a1_1, .int .i64 a1_2, .int .i64 a1_3, .int .i64 a1_4, .int .i64 a1_5, .bool a1_6, .int .i64 a1_7] 23 (0, 0)) (by (with_reducible repeat (first | refine bN_ ?_ _ | refine bD_ ?_ | refine bA_ ?_ _)); exact BK251.out) hb)
                have n3_ := Aside0.mk (blk_below (g := gb264) (o := .cells #[.int .u8 t254, .int .i64 t255, .int .i64 t256, .int .i64 t257, .int .i64 t258, .int .i64 t259, .bool t260, .int .i64 t261] 23 (0, 0)) (by (with_reducible repeat (first | refine bN_ ?_ _ | refine bD_ ?_ | refine bA_ ?_ _)); exact BK264.out) hb)
                have n4_ := Aside0.mk (blk_below (g := gb276) (o := .cells #[.int .u8 t266, .int .i64 t267, .int .i64 t268, .int .i64 t269, .int .i64 t270, .int .i64 t271, .bool t272, .int .i64 t273] 23 (0, 0)) (by (with_reducible repeat (first | refine bN_ ?_ _ | refine bD_ ?_ | refine bA_ ?_ _)); exact BK276.out) hb)
                have n5_ := Aside0.mk (below_step (by repeat (first | (with_reducible first | exact HB.out | apply bX_ | apply bW_ | apply bY_ | refine bS_ ?_ GE251.out | refine bS_ ?_ GE264.out | refine bS_ ?_ GE276.out) | exact HB.out)) hb)
                clear HO292
                clear HO295
                clear BK251
                clear BK264
                clear BK276
                clear HB
                have HO292 := n0_
                have HO295 := n1_
                have BK251 := n2_
                have BK264 := n3_
                have BK276 := n4_
                have HB := n5_
                clear n0_ n1_ n2_ n3_ n4_ n5_
                (try clear hb)
                (try clear hb2)
                (try clear hk)
                (try clear hi)
                refine hK.out _ _ ⟨(bC_ BK251.out 0).trans rfl, (bC_ BK251.out 1).trans rfl, (bC_ BK251.out 2).trans rfl, (bC_ BK251.out 3).trans rfl, (bC_ BK251.out 4).trans rfl, (bC_ BK251.out 5).trans rfl, (bC_ BK251.out 6).trans rfl, (bC_ BK251.out 7).trans rfl⟩ (fun hHeld => ?_)
                clear hK K
                refine norm_ (a' := ?_) ?_ ?_
                rotate_left
                · show Act.put _ (some 107) _ = _
                  simp only [Act.put, List.setIfInBounds_toArray, List.set_cons_zero, List.set_cons_succ, i64_w, i32_w]
                  rfl
                refine one_ (i := 16) (N := some 109) #[true, true, true, true, true, true, true, true, true, true, true, true, true, true, true, true, true, false, false, false, false, false, false, false, false, false, false, false, false, false, false, false] rfl rfl (one_of HT_.out (by kernel_rfl)) (by decide) (fun K hK => ?_)
                refine goes_ Tryd.func20 (by kernel_rfl) rfl #[.int .i64 a0] (by rfl) rfl rfl (by (try simp only [List.map_toArray, List.map_cons, List.map_nil]); first | done | rfl | (simp only [List.length_drop, List.length_take]; rfl)) ?_
                with_reducible refine (r8_Reg.calls a0 t305 t306 t307 t308 t309 t310 t311 t312 _ A81.out).mono ?_
                rintro e w118 ⟨rfl, hb⟩
                refine ⟨_, rfl, ?_⟩
                have n0_ := Aside0.mk (Kd.R_below (by (with_reducible repeat (first | apply Kd.R_alloc | apply Kd.R_drewN | apply Kd.R_drew)); exact HO292.out) hb)
                have n1_ := Aside0.mk (Kd.R_below (by (with_reducible repeat (first | apply Kd.R_alloc | apply Kd.R_drewN | apply Kd.R_drew)); exact HO295.out) hb)
                have n2_ := Aside0.mk (blk_below (g := gb251) (o := .cells #[.int .u8 a1_0, .int .i64 a1_1, .int .i64 a1_2, .int .i64 a1_3, .int .i64 a1_4, .int .i64 a1_5, .bool a1_6, .int .i64 a1_7] 23 (0, 0)) (by (with_reducible repeat (first | refine bN_ ?_ _ | refine bD_ ?_ | refine bA_ ?_ _)); exact BK251.out) hb)
                have n3_ := Aside0.mk (blk_below (g := gb264) (o := .cells #[.int .u8 t254, .int .i64 t255, .int .i64 t256, .int .i64 t257, .int .i64 t258, .int .i64 t259, .bool t260, .int .i64 t261] 23 (0, 0)) (by (with_reducible repeat (first | refine bN_ ?_ _ | refine bD_ ?_ | refine bA_ ?_ _)); exact BK264.out) hb)
                have n4_ := Aside0.mk (blk_below (g := gb276) (o := .cells #[.int .u8 t266, .int .i64 t267, .int .i64 t268, .int .i64 t269, .int .i64 t270, .int .i64 t271, .bool t272, .int .i64 t273] 23 (0, 0)) (by (with_reducible repeat (first | refine bN_ ?_ _ | refine bD_ ?_ | refine bA_ ?_ _)); exact BK276.out) hb)
                have n5_ := Aside0.mk (below_step (by repeat (first | (with_reducible first | exact HB.out | apply bX_ | apply bW_ | apply bY_ | refine bS_ ?_ GE251.out | refine bS_ ?_ GE264.out | refine bS_ ?_ GE276.out) | exact HB.out)) hb)
                clear HO292
                clear HO295
                clear BK251
                clear BK264
                clear BK276
                clear HB
                have HO292 := n0_
                have HO295 := n1_
                have BK251 := n2_
                have BK264 := n3_
                have BK276 := n4_
                have HB := n5_
                clear n0_ n1_ n2_ n3_ n4_ n5_
                (try clear hb)
                (try clear hb2)
                (try clear hk)
                (try clear hi)
                refine hK.out _ _ ⟨(bC_ BK251.out 0).trans rfl, (bC_ BK251.out 1).trans rfl, (bC_ BK251.out 2).trans rfl, (bC_ BK251.out 3).trans rfl, (bC_ BK251.out 4).trans rfl, (bC_ BK251.out 5).trans rfl, (bC_ BK251.out 6).trans rfl, (bC_ BK251.out 7).trans rfl⟩ (fun hHeld => ?_)
                clear hK K
                refine norm_ (a' := ?_) ?_ ?_
                rotate_left
                · show Act.put _ (some 109) _ = _
                  simp only [Act.put, List.setIfInBounds_toArray, List.set_cons_zero, List.set_cons_succ, i64_w, i32_w]
                  rfl
                refine pure_ (i := 17) (N := some 110) (v := ?_) (a' := ?_) #[true, true, true, true, true, true, true, true, true, true, true, true, true, true, true, true, true, true, false, false, false, false, false, false, false, false, false, false, false, false, false, false] rfl rfl (any_of HT_.out (by kernel_rfl)) (fun _ _ _ h => h) (Or.inl ⟨by rfl, ?_⟩) ?_ ?_
                rotate_left
                · intro w'
                  go_simp
                  with_reducible rfl
                rotate_left
                · simp only [Act.put, List.setIfInBounds_toArray, List.set_cons_zero, List.set_cons_succ, i64_w, i32_w]
                  rfl
                refine pure_ (i := 18) (N := some 111) (v := ?_) (a' := ?_) #[true, true, true, true, true, true, true, true, true, true, true, true, true, true, true, true, true, true, true, false, false, false, false, false, false, false, false, false, false, false, false, false] rfl rfl (any_of HT_.out (by kernel_rfl)) (fun _ _ _ h => h) (Or.inl ⟨by rfl, ?_⟩) ?_ ?_
                rotate_left
                · intro w'
                  go_simp
                  with_reducible rfl
                rotate_left
                · simp only [Act.put, List.setIfInBounds_toArray, List.set_cons_zero, List.set_cons_succ, i64_w, i32_w]
                  rfl
                refine pure_ (i := 19) (N := some 112) (v := ?_) (a' := ?_) #[true, true, true, true, true, true, true, true, true, true, true, true, true, true, true, true, true, true, true, true, false, false, false, false, false, false, false, false, false, false, false, false] rfl rfl (any_of HT_.out (by kernel_rfl)) (fun _ _ _ h => h) (Or.inl ⟨by rfl, ?_⟩) ?_ ?_
                rotate_left
                · intro w'
                  go_simp
                  with_reducible rfl
                rotate_left
                · simp only [Act.put, List.setIfInBounds_toArray, List.set_cons_zero, List.set_cons_succ, i64_w, i32_w]
                  rfl
                refine pure_ (i := 20) (N := some 113) (v := undef) (a' := ?_) #[true, true, true, true, true, true, true, true, true, true, true, true, true, true, true, true, true, true, true, true, true, false, false, false, false, false, false, false, false, false, false, false] rfl rfl (any_of HT_.out (by kernel_rfl)) (fun _ _ _ h => h) (Or.inr ⟨by rfl, rfl⟩) ?_ ?_
                rotate_left
                · simp only [Act.put, List.setIfInBounds_toArray, List.set_cons_zero, List.set_cons_succ, i64_w, i32_w]
                  rfl
                refine pure_ (i := 21) (N := some 114) (v := undef) (a' := ?_) #[true, true, true, true, true, true, true, true, true, true, true, true, true, true, true, true, true, true, true, true, true, true, false, false, false, false, false, false, false, false, false, false] rfl rfl (any_of HT_.out (by kernel_rfl)) (fun _ _ _ h => h) (Or.inr ⟨by rfl, rfl⟩) ?_ ?_
                rotate_left
                · simp only [Act.put, List.setIfInBounds_toArray, List.set_cons_zero, List.set_cons_succ, i64_w, i32_w]
                  rfl
                refine pure_ (i := 22) (N := some 115) (v := undef) (a' := ?_) #[true, true, true, true, true, true, true, true, true, true, true, true, true, true, true, true, true, true, true, true, true, true, true, false, false, false, false, false, false, false, false, false] rfl rfl (any_of HT_.out (by kernel_rfl)) (fun _ _ _ h => h) (Or.inr ⟨by rfl, rfl⟩) ?_ ?_
                rotate_left
                · simp only [Act.put, List.setIfInBounds_toArray, List.set_cons_zero, List.set_cons_succ, i64_w, i32_w]
                  rfl
                refine pure_ (i := 23) (N := some 116) (v := undef) (a' := ?_) #[true, true, true, true, true, true, true, true, true, true, true, true, true, true, true, true, true, true, true, true, true, true, true, true, false, false, false, false, false, false, false, false] rfl rfl (any_of HT_.out (by kernel_rfl)) (fun _ _ _ h => h) (Or.inr ⟨by rfl, rfl⟩) ?_ ?_
                rotate_left
                · simp only [Act.put, List.setIfInBounds_toArray, List.set_cons_zero, List.set_cons_succ, i64_w, i32_w]
                  rfl
                refine pure_ (i := 24) (N := some 117) (v := undef) (a' := ?_) #[true, true, true, true, true, true, true, true, true, true, true, true, true, true, true, true, true, true, true, true, true, true, true, true, true, false, false, false, false, false, false, false] rfl rfl (any_of HT_.out (by kernel_rfl)) (fun _ _ _ h => h) (Or.inr ⟨by rfl, rfl⟩) ?_ ?_
                rotate_left
                · simp only [Act.put, List.setIfInBounds_toArray, List.set_cons_zero, List.set_cons_succ, i64_w, i32_w]
                  rfl
                refine pure_ (i := 25) (N := some 118) (v := undef) (a' := ?_) #[true, true, true, true, true, true, true, true, true, true, true, true, true, true, true, true, true, true, true, true, true, true, true, true, true, true, false, false, false, false, false, false] rfl rfl (any_of HT_.out (by kernel_rfl)) (fun _ _ _ h => h) (Or.inr ⟨by rfl, rfl⟩) ?_ ?_
                rotate_left
                · simp only [Act.put, List.setIfInBounds_toArray, List.set_cons_zero, List.set_cons_succ, i64_w, i32_w]
                  rfl
                refine pure_ (i := 26) (N := some 119) (v := undef) (a' := ?_) #[true, true, true, true, true, true, true, true, true, true, true, true, true, true, true, true, true, true, true, true, true, true, true, true, true, true, true, false, false, false, false, false] rfl rfl (any_of HT_.out (by kernel_rfl)) (fun _ _ _ h => h) (Or.inr ⟨by rfl, rfl⟩) ?_ ?_
                rotate_left
                · simp only [Act.put, List.setIfInBounds_toArray, List.set_cons_zero, List.set_cons_succ, i64_w, i32_w]
                  rfl
                refine pure_ (i := 27) (N := some 120) (v := ?_) (a' := ?_) #[true, true, true, true, true, true, true, true, true, true, true, true, true, true, true, true, true, true, true, true, true, true, true, true, true, true, true, true, false, false, false, false] rfl rfl (any_of HT_.out (by kernel_rfl)) (fun _ _ _ h => h) (Or.inl ⟨by rfl, ?_⟩) ?_ ?_
                rotate_left
                · intro w'
                  go_simp
                  with_reducible rfl
                rotate_left
                · simp only [Act.put, List.setIfInBounds_toArray, List.set_cons_zero, List.set_cons_succ, i64_w, i32_w]
                  rfl
                refine pure_ (i := 28) (N := some 121) (v := ?_) (a' := ?_) #[true, true, true, true, true, true, true, true, true, true, true, true, true, true, true, true, true, true, true, true, true, true, true, true, true, true, true, true, true, false, false, false] rfl rfl (any_of HT_.out (by kernel_rfl)) (fun _ _ _ h => h) (Or.inl ⟨by rfl, ?_⟩) ?_ ?_
                rotate_left
                · intro w'
                  go_simp
                  with_reducible rfl
                rotate_left
                · simp only [Act.put, List.setIfInBounds_toArray, List.set_cons_zero, List.set_cons_succ, i64_w, i32_w]
                  rfl
                refine pure_ (i := 29) (N := some 122) (v := undef) (a' := ?_) #[true, true, true, true, true, true, true, true, true, true, true, true, true, true, true, true, true, true, true, true, true, true, true, true, true, true, true, true, true, true, false, false] rfl rfl (any_of HT_.out (by kernel_rfl)) (fun _ _ _ h => h) (Or.inr ⟨by rfl, rfl⟩) ?_ ?_
                rotate_left
                · simp only [Act.put, List.setIfInBounds_toArray, List.set_cons_zero, List.set_cons_succ, i64_w, i32_w]
                  rfl
                refine pure_ (i := 30) (N := some 123) (v := ?_) (a' := ?_) #[true, true, true, true, true, true, true, true, true, true, true, true, true, true, true, true, true, true, true, true, true, true, true, true, true, true, true, true, true, true, true, false] rfl rfl (any_of HT_.out (by kernel_rfl)) (fun _ _ _ h => h) (Or.inl ⟨by rfl, ?_⟩) ?_ ?_
                rotate_left
                · intro w'
                  go_simp
                  with_reducible rfl
                rotate_left
                · simp only [Act.put, List.setIfInBounds_toArray, List.set_cons_zero, List.set_cons_succ, i64_w, i32_w]
                  rfl
                refine pure_ (i := 31) (N := some 10) (v := ?_) (a' := ?_) #[true, true, true, true, true, true, true, true, true, true, true, true, true, true, true, true, true, true, true, true, true, true, true, true, true, true, true, true, true, true, true, true] rfl rfl (any_of HT_.out (by kernel_rfl)) (fun _ _ _ h => h) (Or.inl ⟨by rfl, ?_⟩) ?_ ?_
                rotate_left
                · intro w'
                  go_simp
                  with_reducible rfl
                rotate_left
                · simp only [Act.put, List.setIfInBounds_toArray, List.set_cons_zero, List.set_cons_succ, i64_w, i32_w]
                  rfl
                refine done_ (done_of HT_.out (by kernel_rfl)) ?_
                try go_wp2
                go_ret
                exact ⟨by first | rfl | (simp [errW_none, errW_some] <;> rfl) | (simp [*, errW_none, errW_some] <;> rfl), by repeat (first | (with_reducible first | exact HB.out | apply bX_ | apply bW_ | apply bY_ | refine bS_ ?_ GE251.out | refine bS_ ?_ GE264.out | refine bS_ ?_ GE276.out) | exact HB.out)⟩
            · replace c79 := Bool.eq_false_iff.mpr c79
              subst c79
              have H1 : (some false) = some r := by rw [if_neg (show ¬ (false = true) by decide)] at H; exact H
              clear H
              have H := H1
              clear H1
              obtain rfl := Option.some.inj H
              try go_wp2
              have n0_ := Aside0.mk (bD_ BK251.out)
              have n1_ := Aside0.mk (bD_ BK264.out)
              have n2_ := Aside0.mk (bD_ BK276.out)
              have n3_ := Aside0.mk (bY_ HB.out)
              clear BK251
              clear BK264
              clear BK276
              clear HB
              have BK251 := n0_
              have BK264 := n1_
              have BK276 := n2_
              have HB := n3_
              clear n0_ n1_ n2_ n3_
              refine start_ (n := 32) (S := fun w' => w'.cell? ⟨gb251, 0, none⟩ = some (.int .u8 a1_0) ∧ w'.cell? ⟨gb251, 1, none⟩ = some (.int .i64 a1_1) ∧ w'.cell? ⟨gb251, 2, none⟩ = some (.int .i64 a1_2) ∧ w'.cell? ⟨gb251, 3, none⟩ = some (.int .i64 a1_3) ∧ w'.cell? ⟨gb251, 4, none⟩ = some (.int .i64 a1_4) ∧ w'.cell? ⟨gb251, 5, none⟩ = some (.int .i64 a1_5) ∧ w'.cell? ⟨gb251, 6, none⟩ = some (.bool a1_6) ∧ w'.cell? ⟨gb251, 7, none⟩ = some (.int .i64 a1_7)) (ds := []) #[false, false, false, false, false, false, false, false, false, false, false, false, false, false, false, false, false, false, false, false, false, false, false, false, false, false, false, false, false, false, false, false] (by kernel_rfl) rfl rfl ⟨(bC_ BK251.out 0).trans rfl, (bC_ BK251.out 1).trans rfl, (bC_ BK251.out 2).trans rfl, (bC_ BK251.out 3).trans rfl, (bC_ BK251.out 4).trans rfl, (bC_ BK251.out 5).trans rfl, (bC_ BK251.out 6).trans rfl, (bC_ BK251.out 7).trans rfl⟩ (fun hHeld => ?_); refine with_tabW lTl.tab9 lTl.bits9 (fun HT_ HW_ => ?_)
              generalize wc.drew = w119 at BK251 BK264 BK276 HB hHeld ⊢
              refine take_ (i := 0) (N := some 93) (v := ?_) (a' := ?_) #[true, false, false, false, false, false, false, false, false, false, false, false, false, false, false, false, false, false, false, false, false, false, false, false, false, false, false, false, false, false, false, false] rfl rfl (take_ofW HT_.out HW_.out (by kernel_rfl)) (fun _ _ _ h => h) (Or.inl ⟨by rfl, ?_⟩) hHeld ?_ ?_
              rotate_left
              · rintro w' ⟨s0, s1, s2, s3, s4, s5, s6, s7⟩
                go_simp
                with_reducible rfl
              rotate_left
              · simp only [Act.put, List.setIfInBounds_toArray, List.set_cons_zero, List.set_cons_succ, i64_w, i32_w]
                rfl
              refine take_ (i := 2) (N := some 95) (v := ?_) (a' := ?_) #[true, false, true, false, false, false, false, false, false, false, false, false, false, false, false, false, false, false, false, false, false, false, false, false, false, false, false, false, false, false, false, false] rfl rfl (take_ofW HT_.out HW_.out (by kernel_rfl)) (fun _ _ _ h => h) (Or.inl ⟨by rfl, ?_⟩) hHeld ?_ ?_
              rotate_left
              · rintro w' ⟨s0, s1, s2, s3, s4, s5, s6, s7⟩
                go_simp
                with_reducible rfl
              rotate_left
              · simp only [Act.put, List.setIfInBounds_toArray, List.set_cons_zero, List.set_cons_succ, i64_w, i32_w]
                rfl
              refine one_ (i := 1) (N := some 94) #[true, true, true, false, false, false, false, false, false, false, false, false, false, false, false, false, false, false, false, false, false, false, false, false, false, false, false, false, false, false, false, false] rfl rfl (one_of HT_.out (by kernel_rfl)) (by decide) (fun K hK => ?_)
              refine goes_ Tryd.func15 (by kernel_rfl) rfl #[.agg #[.int .u8 a1_0, .int .i64 a1_1, .int .i64 a1_2, .int .i64 a1_3, .int .i64 a1_4, .int .i64 a1_5, .bool a1_6, .int .i64 a1_7]] (by rfl) rfl rfl (by (try simp only [List.map_toArray, List.map_cons, List.map_nil]); first | done | rfl | (simp only [List.length_drop, List.length_take]; rfl)) ?_
              with_reducible refine (operand_Right.calls kj13 a1_0 a1_1 a1_2 a1_3 a1_4 a1_5 a1_6 a1_7 t288 _ A73.out).mono ?_
              rintro e w120 ⟨rfl, hb⟩
              refine ⟨_, rfl, ?_⟩
              have n0_ := Aside0.mk (blk_below (g := gb251) (o := .cells #[.int .u8 a1_0, .int .i64 a1_1, .int .i64 a1_2, .int .i64 a1_3, .int .i64 a1_4, .int .i64 a1_5, .bool a1_6, .int .i64 a1_7] 23 (0, 0)) (by (with_reducible repeat (first | refine bN_ ?_ _ | refine bD_ ?_ | refine bA_ ?_ _)); exact BK251.out) hb)
              have n1_ := Aside0.mk (blk_below (g := gb264) (o := .cells #[.int .u8 t254, .int .i64 t255, .int .i64 t256, .int .i64 t257, .int .i64 t258, .int .i64 t259, .bool t260, .int .i64 t261] 23 (0, 0)) (by (with_reducible repeat (first | refine bN_ ?_ _ | refine bD_ ?_ | refine bA_ ?_ _)); exact BK264.out) hb)
              have n2_ := Aside0.mk (blk_below (g := gb276) (o := .cells #[.int .u8 t266, .int .i64 t267, .int .i64 t268, .int .i64 t269, .int .i64 t270, .int .i64 t271, .bool t272, .int .i64 t273] 23 (0, 0)) (by (with_reducible repeat (first | refine bN_ ?_ _ | refine bD_ ?_ | refine bA_ ?_ _)); exact BK276.out) hb)
              have n3_ := Aside0.mk (below_step (by repeat (first | (with_reducible first | exact HB.out | apply bX_ | apply bW_ | apply bY_ | refine bS_ ?_ GE251.out | refine bS_ ?_ GE264.out | refine bS_ ?_ GE276.out) | exact HB.out)) hb)
              clear BK251
              clear BK264
              clear BK276
              clear HB
              have BK251 := n0_
              have BK264 := n1_
              have BK276 := n2_
              have HB := n3_
              clear n0_ n1_ n2_ n3_
              (try clear hb)
              (try clear hb2)
              (try clear hk)
              (try clear hi)
              refine hK.out _ _ ⟨(bC_ BK251.out 0).trans rfl, (bC_ BK251.out 1).trans rfl, (bC_ BK251.out 2).trans rfl, (bC_ BK251.out 3).trans rfl, (bC_ BK251.out 4).trans rfl, (bC_ BK251.out 5).trans rfl, (bC_ BK251.out 6).trans rfl, (bC_ BK251.out 7).trans rfl⟩ (fun hHeld => ?_)
              clear hK K
              refine norm_ (a' := ?_) ?_ ?_
              rotate_left
              · show Act.put _ (some 94) _ = _
                simp only [Act.put, List.setIfInBounds_toArray, List.set_cons_zero, List.set_cons_succ, i64_w, i32_w]
                rfl
              refine one_ (i := 3) (N := some 96) #[true, true, true, true, false, false, false, false, false, false, false, false, false, false, false, false, false, false, false, false, false, false, false, false, false, false, false, false, false, false, false, false] rfl rfl (one_of HT_.out (by kernel_rfl)) (by decide) (fun K hK => ?_)
              refine goes_ Tryd.func10 (by kernel_rfl) rfl #[.agg #[.int .u8 a1_0, .int .i64 a1_1, .int .i64 a1_2, .int .i64 a1_3, .int .i64 a1_4, .int .i64 a1_5, .bool a1_6, .int .i64 a1_7]] (by rfl) rfl rfl (by (try simp only [List.map_toArray, List.map_cons, List.map_nil]); first | done | rfl | (simp only [List.length_drop, List.length_take]; rfl)) ?_
              with_reducible refine (r8_Right.calls kj13 a1_0 a1_1 a1_2 a1_3 a1_4 a1_5 a1_6 a1_7 t289 _ A74.out).mono ?_
              rintro e w121 ⟨rfl, hb⟩
              refine ⟨_, rfl, ?_⟩
              have n0_ := Aside0.mk (blk_below (g := gb251) (o := .cells #[.int .u8 a1_0, .int .i64 a1_1, .int .i64 a1_2, .int .i64 a1_3, .int .i64 a1_4, .int .i64 a1_5, .bool a1_6, .int .i64 a1_7] 23 (0, 0)) (by (with_reducible repeat (first | refine bN_ ?_ _ | refine bD_ ?_ | refine bA_ ?_ _)); exact BK251.out) hb)
              have n1_ := Aside0.mk (blk_below (g := gb264) (o := .cells #[.int .u8 t254, .int .i64 t255, .int .i64 t256, .int .i64 t257, .int .i64 t258, .int .i64 t259, .bool t260, .int .i64 t261] 23 (0, 0)) (by (with_reducible repeat (first | refine bN_ ?_ _ | refine bD_ ?_ | refine bA_ ?_ _)); exact BK264.out) hb)
              have n2_ := Aside0.mk (blk_below (g := gb276) (o := .cells #[.int .u8 t266, .int .i64 t267, .int .i64 t268, .int .i64 t269, .int .i64 t270, .int .i64 t271, .bool t272, .int .i64 t273] 23 (0, 0)) (by (with_reducible repeat (first | refine bN_ ?_ _ | refine bD_ ?_ | refine bA_ ?_ _)); exact BK276.out) hb)
              have n3_ := Aside0.mk (below_step (by repeat (first | (with_reducible first | exact HB.out | apply bX_ | apply bW_ | apply bY_ | refine bS_ ?_ GE251.out | refine bS_ ?_ GE264.out | refine bS_ ?_ GE276.out) | exact HB.out)) hb)
              clear BK251
              clear BK264
              clear BK276
              clear HB
              have BK251 := n0_
              have BK264 := n1_
              have BK276 := n2_
              have HB := n3_
              clear n0_ n1_ n2_ n3_
              (try clear hb)
              (try clear hb2)
              (try clear hk)
              (try clear hi)
              refine hK.out _ _ ⟨(bC_ BK251.out 0).trans rfl, (bC_ BK251.out 1).trans rfl, (bC_ BK251.out 2).trans rfl, (bC_ BK251.out 3).trans rfl, (bC_ BK251.out 4).trans rfl, (bC_ BK251.out 5).trans rfl, (bC_ BK251.out 6).trans rfl, (bC_ BK251.out 7).trans rfl⟩ (fun hHeld => ?_)
              clear hK K
              refine norm_ (a' := ?_) ?_ ?_
              rotate_left
              · show Act.put _ (some 96) _ = _
                simp only [Act.put, List.setIfInBounds_toArray, List.set_cons_zero, List.set_cons_succ, i64_w, i32_w]
                rfl
              refine pure_ (i := 4) (N := some 97) (v := ?_) (a' := ?_) #[true, true, true, true, true, false, false, false, false, false, false, false, false, false, false, false, false, false, false, false, false, false, false, false, false, false, false, false, false, false, false, false] rfl rfl (any_of HT_.out (by kernel_rfl)) (fun _ _ _ h => h) (Or.inl ⟨by rfl, ?_⟩) ?_ ?_
              rotate_left
              · intro w'
                go_simp
                with_reducible rfl
              rotate_left
              · simp only [Act.put, List.setIfInBounds_toArray, List.set_cons_zero, List.set_cons_succ, i64_w, i32_w]
                rfl
              refine pure_ (i := 5) (N := some 98) (v := ?_) (a' := ?_) #[true, true, true, true, true, true, false, false, false, false, false, false, false, false, false, false, false, false, false, false, false, false, false, false, false, false, false, false, false, false, false, false] rfl rfl (any_of HT_.out (by kernel_rfl)) (fun _ _ _ h => h) (Or.inl ⟨by rfl, ?_⟩) ?_ ?_
              rotate_left
              · intro w'
                go_simp
                with_reducible rfl
              rotate_left
              · simp only [Act.put, List.setIfInBounds_toArray, List.set_cons_zero, List.set_cons_succ, i64_w, i32_w]
                rfl
              refine take_ (i := 6) (N := some 99) (v := ?_) (a' := ?_) #[true, true, true, true, true, true, true, false, false, false, false, false, false, false, false, false, false, false, false, false, false, false, false, false, false, false, false, false, false, false, false, false] rfl rfl (take_ofW HT_.out HW_.out (by kernel_rfl)) (fun _ _ _ h => h) (Or.inl ⟨by rfl, ?_⟩) hHeld ?_ ?_
              rotate_left
              · rintro w' ⟨s0, s1, s2, s3, s4, s5, s6, s7⟩
                go_simp
                with_reducible rfl
              rotate_left
              · simp only [Act.put, List.setIfInBounds_toArray, List.set_cons_zero, List.set_cons_succ, i64_w, i32_w]
                rfl
              refine take_ (i := 8) (N := some 101) (v := ?_) (a' := ?_) #[true, true, true, true, true, true, true, false, true, false, false, false, false, false, false, false, false, false, false, false, false, false, false, false, false, false, false, false, false, false, false, false] rfl rfl (take_ofW HT_.out HW_.out (by kernel_rfl)) (fun _ _ _ h => h) (Or.inl ⟨by rfl, ?_⟩) hHeld ?_ ?_
              rotate_left
              · rintro w' ⟨s0, s1, s2, s3, s4, s5, s6, s7⟩
                go_simp
                with_reducible rfl
              rotate_left
              · simp only [Act.put, List.setIfInBounds_toArray, List.set_cons_zero, List.set_cons_succ, i64_w, i32_w]
                rfl
              refine one_ (i := 7) (N := some 100) #[true, true, true, true, true, true, true, true, true, false, false, false, false, false, false, false, false, false, false, false, false, false, false, false, false, false, false, false, false, false, false, false] rfl rfl (one_of HT_.out (by kernel_rfl)) (by decide) (fun K hK => ?_)
              refine goes_ Tryd.func17 (by kernel_rfl) rfl #[.agg #[.int .u8 a1_0, .int .i64 a1_1, .int .i64 a1_2, .int .i64 a1_3, .int .i64 a1_4, .int .i64 a1_5, .bool a1_6, .int .i64 a1_7]] (by rfl) rfl rfl (by (try simp only [List.map_toArray, List.map_cons, List.map_nil]); first | done | rfl | (simp only [List.length_drop, List.length_take]; rfl)) ?_
              with_reducible refine (operand_Uses.calls a1_0 a1_1 a1_2 a1_3 a1_4 a1_5 a1_6 a1_7 t290 _ A76.out).mono ?_
              rintro e w122 ⟨v291, rfl, ho0, hb⟩
              refine ⟨_, rfl, ?_⟩
              have n0_ := Aside0.mk (Kd.R_lower ho0 (below_size (by repeat (first | (with_reducible first | exact HB.out | apply bX_ | apply bW_ | apply bY_ | refine bS_ ?_ GE251.out | refine bS_ ?_ GE264.out | refine bS_ ?_ GE276.out) | exact HB.out))))
              have n1_ := Aside0.mk (blk_below (g := gb251) (o := .cells #[.int .u8 a1_0, .int .i64 a1_1, .int .i64 a1_2, .int .i64 a1_3, .int .i64 a1_4, .int .i64 a1_5, .bool a1_6, .int .i64 a1_7] 23 (0, 0)) (by (with_reducible repeat (first | refine bN_ ?_ _ | refine bD_ ?_ | refine bA_ ?_ _)); exact BK251.out) hb)
              have n2_ := Aside0.mk (blk_below (g := gb264) (o := .cells #[.int .u8 t254, .int .i64 t255, .int .i64 t256, .int .i64 t257, .int .i64 t258, .int .i64 t259, .bool t260, .int .i64 t261] 23 (0, 0)) (by (with_reducible repeat (first | refine bN_ ?_ _ | refine bD_ ?_ | refine bA_ ?_ _)); exact BK264.out) hb)
              have n3_ := Aside0.mk (blk_below (g := gb276) (o := .cells #[.int .u8 t266, .int .i64 t267, .int .i64 t268, .int .i64 t269, .int .i64 t270, .int .i64 t271, .bool t272, .int .i64 t273] 23 (0, 0)) (by (with_reducible repeat (first | refine bN_ ?_ _ | refine bD_ ?_ | refine bA_ ?_ _)); exact BK276.out) hb)
              have n4_ := Aside0.mk (below_step (by repeat (first | (with_reducible first | exact HB.out | apply bX_ | apply bW_ | apply bY_ | refine bS_ ?_ GE251.out | refine bS_ ?_ GE264.out | refine bS_ ?_ GE276.out) | exact HB.out)) hb)
              clear BK251
              clear BK264
              clear BK276
              clear HB
              have HO292 := n0_
              have BK251 := n1_
              have BK264 := n2_
              have BK276 := n3_
              have HB := n4_
              clear n0_ n1_ n2_ n3_ n4_
              (try clear hb)
              (try clear hb2)
              (try clear hk)
              (try clear hi)
              (try clear ho0)
              refine hK.out _ _ ⟨(bC_ BK251.out 0).trans rfl, (bC_ BK251.out 1).trans rfl, (bC_ BK251.out 2).trans rfl, (bC_ BK251.out 3).trans rfl, (bC_ BK251.out 4).trans rfl, (bC_ BK251.out 5).trans rfl, (bC_ BK251.out 6).trans rfl, (bC_ BK251.out 7).trans rfl⟩ (fun hHeld => ?_)
              clear hK K
              refine norm_ (a' := ?_) ?_ ?_
              rotate_left
              · show Act.put _ (some 100) _ = _
                simp only [Act.put, List.setIfInBounds_toArray, List.set_cons_zero, List.set_cons_succ, i64_w, i32_w]
                rfl
              refine one_ (i := 9) (N := some 102) #[true, true, true, true, true, true, true, true, true, true, false, false, false, false, false, false, false, false, false, false, false, false, false, false, false, false, false, false, false, false, false, false] rfl rfl (one_of HT_.out (by kernel_rfl)) (by decide) (fun K hK => ?_)
              refine goes_ Tryd.func18 (by kernel_rfl) rfl #[.agg #[.int .u8 a1_0, .int .i64 a1_1, .int .i64 a1_2, .int .i64 a1_3, .int .i64 a1_4, .int .i64 a1_5, .bool a1_6, .int .i64 a1_7]] (by rfl) rfl rfl (by (try simp only [List.map_toArray, List.map_cons, List.map_nil]); first | done | rfl | (simp only [List.length_drop, List.length_take]; rfl)) ?_
              with_reducible refine (r8_Uses.calls a1_0 a1_1 a1_2 a1_3 a1_4 a1_5 a1_6 a1_7 t293 _ A77.out).mono ?_
              rintro e w123 ⟨v294, rfl, ho0, hb⟩
              refine ⟨_, rfl, ?_⟩
              have n0_ := Aside0.mk (Kd.R_elder' (by (with_reducible repeat (first | apply Kd.R_alloc | apply Kd.R_drewN | apply Kd.R_drew)); exact HO292.out) (by first | exact Kd.R_base ho0 | exact Kd.R_base (Kd.S_R ho0) | exact Kd.R_base ho0) hb)
              have n1_ := Aside0.mk (Kd.R_lower (Kd.R_new' ho0 (Kd.R_lt (by (with_reducible repeat (first | apply Kd.R_alloc | apply Kd.R_drewN | apply Kd.R_drew)); exact HO292.out))) (below_size (by repeat (first | (with_reducible first | exact HB.out | apply bX_ | apply bW_ | apply bY_ | refine bS_ ?_ GE251.out | refine bS_ ?_ GE264.out | refine bS_ ?_ GE276.out) | exact HB.out))))
              have n2_ := Aside0.mk (blk_below (g := gb251) (o := .cells #[.int .u8 a1_0, .int .i64 a1_1, .int .i64 a1_2, .int .i64 a1_3, .int .i64 a1_4, .int .i64 a1_5, .bool a1_6, .int .i64 a1_7] 23 (0, 0)) (by (with_reducible repeat (first | refine bN_ ?_ _ | refine bD_ ?_ | refine bA_ ?_ _)); exact BK251.out) hb)
              have n3_ := Aside0.mk (blk_below (g := gb264) (o := .cells #[.int .u8 t254, .int .i64 t255, .int .i64 t256, .int .i64 t257, .int .i64 t258, .int .i64 t259, .bool t260, .int .i64 t261] 23 (0, 0)) (by (with_reducible repeat (first | refine bN_ ?_ _ | refine bD_ ?_ | refine bA_ ?_ _)); exact BK264.out) hb)
              have n4_ := Aside0.mk (blk_below (g := gb276) (o := .cells #[.int .u8 t266, .int .i64 t267, .int .i64 t268, .int .i64 t269, .int .i64 t270, .int .i64 t271, .bool t272, .int .i64 t273] 23 (0, 0)) (by (with_reducible repeat (first | refine bN_ ?_ _ | refine bD_ ?_ | refine bA_ ?_ _)); exact BK276.out) hb)
              have n5_ := Aside0.mk (below_step (by repeat (first | (with_reducible first | exact HB.out | apply bX_ | apply bW_ | apply bY_ | refine bS_ ?_ GE251.out | refine bS_ ?_ GE264.out | refine bS_ ?_ GE276.out) | exact HB.out)) hb)
              clear HO292
              clear BK251
              clear BK264
              clear BK276
              clear HB
              have HO292 := n0_
              have HO295 := n1_
              have BK251 := n2_
              have BK264 := n3_
              have BK276 := n4_
              have HB := n5_
              clear n0_ n1_ n2_ n3_ n4_ n5_
              (try clear hb)
              (try clear hb2)
              (try clear hk)
              (try clear hi)
              (try clear ho0)
              obtain ⟨Ao124, co124, eo124⟩ := Kd.R_slice HO292.out
              (first | subst eo124 | (injection eo124 with f1_ f2_ f3_; have f4_ := f1_.symm; have f5_ := f3_.symm; clear f1_ f2_ f3_; subst f4_; subst f5_))
              obtain ⟨Ao125, co125, eo125⟩ := Kd.R_slice HO295.out
              (first | subst eo125 | (injection eo125 with f1_ f2_ f3_; have f4_ := f1_.symm; have f5_ := f3_.symm; clear f1_ f2_ f3_; subst f4_; subst f5_))
              refine hK.out _ _ ⟨(bC_ BK251.out 0).trans rfl, (bC_ BK251.out 1).trans rfl, (bC_ BK251.out 2).trans rfl, (bC_ BK251.out 3).trans rfl, (bC_ BK251.out 4).trans rfl, (bC_ BK251.out 5).trans rfl, (bC_ BK251.out 6).trans rfl, (bC_ BK251.out 7).trans rfl⟩ (fun hHeld => ?_)
              clear hK K
              refine norm_ (a' := ?_) ?_ ?_
              rotate_left
              · show Act.put _ (some 102) _ = _
                simp only [Act.put, List.setIfInBounds_toArray, List.set_cons_zero, List.set_cons_succ, i64_w, i32_w]
                rfl
              refine one_ (i := 10) (N := some 103) #[true, true, true, true, true, true, true, true, true, true, true, false, false, false, false, false, false, false, false, false, false, false, false, false, false, false, false, false, false, false, false, false] rfl rfl (one_of HT_.out (by kernel_rfl)) (by decide) (fun K hK => ?_)
              refine goes_ Tryd.func16 (by kernel_rfl) rfl #[.slice Ao124 t290.length co124, .slice Ao125 t293.length co125] (by rfl) rfl rfl (by (try simp only [List.map_toArray, List.map_cons, List.map_nil]); first | done | rfl | (simp only [List.length_drop, List.length_take]; rfl)) ?_
              with_reducible refine (l8_ints.calls kj13 _ _ t290 _ _ t293 false _ ?side1 ?side2 ?side3 ?side4 A78.out).mono ?_
              (case side1 => repeat (first | exact (Kd.R_reads' HO292.out).2.2 | (with_reducible refine Kd.C_alloc ?_ _) | (with_reducible refine Kd.C_drewN ?_ _) | (with_reducible refine Kd.C_drew ?_)))
              (case side2 => exact (Kd.R_reads' HO292.out).2.1)
              (case side3 => repeat (first | exact (Kd.R_reads' HO295.out).2.2 | (with_reducible refine Kd.C_alloc ?_ _) | (with_reducible refine Kd.C_drewN ?_ _) | (with_reducible refine Kd.C_drew ?_)))
              (case side4 => exact (Kd.R_reads' HO295.out).2.1)
              rintro e w' ⟨rfl, ⟨nd, rfl⟩⟩
              refine ⟨_, rfl, ?_⟩
              refine hK.out _ _ ⟨(bC_ BK251.out 0).trans rfl, (bC_ BK251.out 1).trans rfl, (bC_ BK251.out 2).trans rfl, (bC_ BK251.out 3).trans rfl, (bC_ BK251.out 4).trans rfl, (bC_ BK251.out 5).trans rfl, (bC_ BK251.out 6).trans rfl, (bC_ BK251.out 7).trans rfl⟩ (fun hHeld => ?_)
              clear hK K
              refine norm_ (a' := ?_) ?_ ?_
              rotate_left
              · show Act.put _ (some 103) _ = _
                simp only [Act.put, List.setIfInBounds_toArray, List.set_cons_zero, List.set_cons_succ, i64_w, i32_w]
                rfl
              refine pure_ (i := 11) (N := some 104) (v := ?_) (a' := ?_) #[true, true, true, true, true, true, true, true, true, true, true, true, false, false, false, false, false, false, false, false, false, false, false, false, false, false, false, false, false, false, false, false] rfl rfl (any_of HT_.out (by kernel_rfl)) (fun _ _ _ h => h) (Or.inl ⟨by rfl, ?_⟩) ?_ ?_
              rotate_left
              · intro w'
                go_simp
                with_reducible rfl
              rotate_left
              · simp only [Act.put, List.setIfInBounds_toArray, List.set_cons_zero, List.set_cons_succ, i64_w, i32_w]
                rfl
              refine pure_ (i := 12) (N := some 105) (v := ?_) (a' := ?_) #[true, true, true, true, true, true, true, true, true, true, true, true, true, false, false, false, false, false, false, false, false, false, false, false, false, false, false, false, false, false, false, false] rfl rfl (any_of HT_.out (by kernel_rfl)) (fun _ _ _ h => h) (Or.inl ⟨by rfl, ?_⟩) ?_ ?_
              rotate_left
              · intro w'
                go_simp
                with_reducible rfl
              rotate_left
              · simp only [Act.put, List.setIfInBounds_toArray, List.set_cons_zero, List.set_cons_succ, i64_w, i32_w]
                rfl
              refine pure_ (i := 13) (N := some 106) (v := undef) (a' := ?_) #[true, true, true, true, true, true, true, true, true, true, true, true, true, true, false, false, false, false, false, false, false, false, false, false, false, false, false, false, false, false, false, false] rfl rfl (any_of HT_.out (by kernel_rfl)) (fun _ _ _ h => h) (Or.inr ⟨by rfl, rfl⟩) ?_ ?_
              rotate_left
              · simp only [Act.put, List.setIfInBounds_toArray, List.set_cons_zero, List.set_cons_succ, i64_w, i32_w]
                rfl
              refine pure_ (i := 14) (N := some 107) (v := undef) (a' := ?_) #[true, true, true, true, true, true, true, true, true, true, true, true, true, true, true, false, false, false, false, false, false, false, false, false, false, false, false, false, false, false, false, false] rfl rfl (any_of HT_.out (by kernel_rfl)) (fun _ _ _ h => h) (Or.inr ⟨by rfl, rfl⟩) ?_ ?_
              rotate_left
              · simp only [Act.put, List.setIfInBounds_toArray, List.set_cons_zero, List.set_cons_succ, i64_w, i32_w]
                rfl
              refine pure_ (i := 15) (N := some 108) (v := undef) (a' := ?_) #[true, true, true, true, true, true, true, true, true, true, true, true, true, true, true, true, false, false, false, false, false, false, false, false, false, false, false, false, false, false, false, false] rfl rfl (any_of HT_.out (by kernel_rfl)) (fun _ _ _ h => h) (Or.inr ⟨by rfl, rfl⟩) ?_ ?_
              rotate_left
              · simp only [Act.put, List.setIfInBounds_toArray, List.set_cons_zero, List.set_cons_succ, i64_w, i32_w]
                rfl
              refine pure_ (i := 16) (N := some 109) (v := undef) (a' := ?_) #[true, true, true, true, true, true, true, true, true, true, true, true, true, true, true, true, true, false, false, false, false, false, false, false, false, false, false, false, false, false, false, false] rfl rfl (any_of HT_.out (by kernel_rfl)) (fun _ _ _ h => h) (Or.inr ⟨by rfl, rfl⟩) ?_ ?_
              rotate_left
              · simp only [Act.put, List.setIfInBounds_toArray, List.set_cons_zero, List.set_cons_succ, i64_w, i32_w]
                rfl
              refine pure_ (i := 17) (N := some 110) (v := undef) (a' := ?_) #[true, true, true, true, true, true, true, true, true, true, true, true, true, true, true, true, true, true, false, false, false, false, false, false, false, false, false, false, false, false, false, false] rfl rfl (any_of HT_.out (by kernel_rfl)) (fun _ _ _ h => h) (Or.inr ⟨by rfl, rfl⟩) ?_ ?_
              rotate_left
              · simp only [Act.put, List.setIfInBounds_toArray, List.set_cons_zero, List.set_cons_succ, i64_w, i32_w]
                rfl
              refine pure_ (i := 18) (N := some 111) (v := ?_) (a' := ?_) #[true, true, true, true, true, true, true, true, true, true, true, true, true, true, true, true, true, true, true, false, false, false, false, false, false, false, false, false, false, false, false, false] rfl rfl (any_of HT_.out (by kernel_rfl)) (fun _ _ _ h => h) (Or.inl ⟨by rfl, ?_⟩) ?_ ?_
              rotate_left
              · intro w'
                go_simp
                with_reducible rfl
              rotate_left
              · simp only [Act.put, List.setIfInBounds_toArray, List.set_cons_zero, List.set_cons_succ, i64_w, i32_w]
                rfl
              refine pure_ (i := 19) (N := some 112) (v := ?_) (a' := ?_) #[true, true, true, true, true, true, true, true, true, true, true, true, true, true, true, true, true, true, true, true, false, false, false, false, false, false, false, false, false, false, false, false] rfl rfl (any_of HT_.out (by kernel_rfl)) (fun _ _ _ h => h) (Or.inl ⟨by rfl, ?_⟩) ?_ ?_
              rotate_left
              · intro w'
                go_simp
                with_reducible rfl
              rotate_left
              · simp only [Act.put, List.setIfInBounds_toArray, List.set_cons_zero, List.set_cons_succ, i64_w, i32_w]
                rfl
              refine pure_ (i := 20) (N := some 113) (v := undef) (a' := ?_) #[true, true, true, true, true, true, true, true, true, true, true, true, true, true, true, true, true, true, true, true, true, false, false, false, false, false, false, false, false, false, false, false] rfl rfl (any_of HT_.out (by kernel_rfl)) (fun _ _ _ h => h) (Or.inr ⟨by rfl, rfl⟩) ?_ ?_
              rotate_left
              · simp only [Act.put, List.setIfInBounds_toArray, List.set_cons_zero, List.set_cons_succ, i64_w, i32_w]
                rfl
              refine pure_ (i := 21) (N := some 114) (v := undef) (a' := ?_) #[true, true, true, true, true, true, true, true, true, true, true, true, true, true, true, true, true, true, true, true, true, true, false, false, false, false, false, false, false, false, false, false] rfl rfl (any_of HT_.out (by kernel_rfl)) (fun _ _ _ h => h) (Or.inr ⟨by rfl, rfl⟩) ?_ ?_
              rotate_left
              · simp only [Act.put, List.setIfInBounds_toArray, List.set_cons_zero, List.set_cons_succ, i64_w, i32_w]
                rfl
              refine pure_ (i := 22) (N := some 115) (v := undef) (a' := ?_) #[true, true, true, true, true, true, true, true, true, true, true, true, true, true, true, true, true, true, true, true, true, true, true, false, false, false, false, false, false, false, false, false] rfl rfl (any_of HT_.out (by kernel_rfl)) (fun _ _ _ h => h) (Or.inr ⟨by rfl, rfl⟩) ?_ ?_
              rotate_left
              · simp only [Act.put, List.setIfInBounds_toArray, List.set_cons_zero, List.set_cons_succ, i64_w, i32_w]
                rfl
              refine pure_ (i := 23) (N := some 116) (v := undef) (a' := ?_) #[true, true, true, true, true, true, true, true, true, true, true, true, true, true, true, true, true, true, true, true, true, true, true, true, false, false, false, false, false, false, false, false] rfl rfl (any_of HT_.out (by kernel_rfl)) (fun _ _ _ h => h) (Or.inr ⟨by rfl, rfl⟩) ?_ ?_
              rotate_left
              · simp only [Act.put, List.setIfInBounds_toArray, List.set_cons_zero, List.set_cons_succ, i64_w, i32_w]
                rfl
              refine pure_ (i := 24) (N := some 117) (v := undef) (a' := ?_) #[true, true, true, true, true, true, true, true, true, true, true, true, true, true, true, true, true, true, true, true, true, true, true, true, true, false, false, false, false, false, false, false] rfl rfl (any_of HT_.out (by kernel_rfl)) (fun _ _ _ h => h) (Or.inr ⟨by rfl, rfl⟩) ?_ ?_
              rotate_left
              · simp only [Act.put, List.setIfInBounds_toArray, List.set_cons_zero, List.set_cons_succ, i64_w, i32_w]
                rfl
              refine pure_ (i := 25) (N := some 118) (v := undef) (a' := ?_) #[true, true, true, true, true, true, true, true, true, true, true, true, true, true, true, true, true, true, true, true, true, true, true, true, true, true, false, false, false, false, false, false] rfl rfl (any_of HT_.out (by kernel_rfl)) (fun _ _ _ h => h) (Or.inr ⟨by rfl, rfl⟩) ?_ ?_
              rotate_left
              · simp only [Act.put, List.setIfInBounds_toArray, List.set_cons_zero, List.set_cons_succ, i64_w, i32_w]
                rfl
              refine pure_ (i := 26) (N := some 119) (v := undef) (a' := ?_) #[true, true, true, true, true, true, true, true, true, true, true, true, true, true, true, true, true, true, true, true, true, true, true, true, true, true, true, false, false, false, false, false] rfl rfl (any_of HT_.out (by kernel_rfl)) (fun _ _ _ h => h) (Or.inr ⟨by rfl, rfl⟩) ?_ ?_
              rotate_left
              · simp only [Act.put, List.setIfInBounds_toArray, List.set_cons_zero, List.set_cons_succ, i64_w, i32_w]
                rfl
              refine pure_ (i := 27) (N := some 120) (v := ?_) (a' := ?_) #[true, true, true, true, true, true, true, true, true, true, true, true, true, true, true, true, true, true, true, true, true, true, true, true, true, true, true, true, false, false, false, false] rfl rfl (any_of HT_.out (by kernel_rfl)) (fun _ _ _ h => h) (Or.inl ⟨by rfl, ?_⟩) ?_ ?_
              rotate_left
              · intro w'
                go_simp
                with_reducible rfl
              rotate_left
              · simp only [Act.put, List.setIfInBounds_toArray, List.set_cons_zero, List.set_cons_succ, i64_w, i32_w]
                rfl
              refine pure_ (i := 28) (N := some 121) (v := ?_) (a' := ?_) #[true, true, true, true, true, true, true, true, true, true, true, true, true, true, true, true, true, true, true, true, true, true, true, true, true, true, true, true, true, false, false, false] rfl rfl (any_of HT_.out (by kernel_rfl)) (fun _ _ _ h => h) (Or.inl ⟨by rfl, ?_⟩) ?_ ?_
              rotate_left
              · intro w'
                go_simp
                with_reducible rfl
              rotate_left
              · simp only [Act.put, List.setIfInBounds_toArray, List.set_cons_zero, List.set_cons_succ, i64_w, i32_w]
                rfl
              refine pure_ (i := 29) (N := some 122) (v := undef) (a' := ?_) #[true, true, true, true, true, true, true, true, true, true, true, true, true, true, true, true, true, true, true, true, true, true, true, true, true, true, true, true, true, true, false, false] rfl rfl (any_of HT_.out (by kernel_rfl)) (fun _ _ _ h => h) (Or.inr ⟨by rfl, rfl⟩) ?_ ?_
              rotate_left
              · simp only [Act.put, List.setIfInBounds_toArray, List.set_cons_zero, List.set_cons_succ, i64_w, i32_w]
                rfl
              refine pure_ (i := 30) (N := some 123) (v := ?_) (a' := ?_) #[true, true, true, true, true, true, true, true, true, true, true, true, true, true, true, true, true, true, true, true, true, true, true, true, true, true, true, true, true, true, true, false] rfl rfl (any_of HT_.out (by kernel_rfl)) (fun _ _ _ h => h) (Or.inl ⟨by rfl, ?_⟩) ?_ ?_
              rotate_left
              · intro w'
                go_simp
                with_reducible rfl
              rotate_left
              · simp only [Act.put, List.setIfInBounds_toArray, List.set_cons_zero, List.set_cons_succ, i64_w, i32_w]
                rfl
              refine pure_ (i := 31) (N := some 10) (v := ?_) (a' := ?_) #[true, true, true, true, true, true, true, true, true, true, true, true, true, true, true, true, true, true, true, true, true, true, true, true, true, true, true, true, true, true, true, true] rfl rfl (any_of HT_.out (by kernel_rfl)) (fun _ _ _ h => h) (Or.inl ⟨by rfl, ?_⟩) ?_ ?_
              rotate_left
              · intro w'
                go_simp
                with_reducible rfl
              rotate_left
              · simp only [Act.put, List.setIfInBounds_toArray, List.set_cons_zero, List.set_cons_succ, i64_w, i32_w]
                rfl
              refine done_ (done_of HT_.out (by kernel_rfl)) ?_
              try go_wp2
              go_ret
              exact ⟨by first | rfl | (simp [errW_none, errW_some] <;> rfl) | (simp [*, errW_none, errW_some] <;> rfl), by repeat (first | (with_reducible first | exact HB.out | apply bX_ | apply bW_ | apply bY_ | refine bS_ ?_ GE251.out | refine bS_ ?_ GE264.out | refine bS_ ?_ GE276.out) | exact HB.out)⟩
          · rw [if_neg c75] at H
            have c75b0 : (t288 == t289) = false := by simpa using c75
            (try (have c75b1 : decide (t288 = t289) = false := by simpa using c75))
            (try (have c75b2 : (t288 == t289) = false := by simpa using c75))
            (try (have c75b3 : ¬ (t288 = t289) := by simpa using c75))
            clear c75
            obtain rfl := Option.some.inj H
            try go_wp2
            have n0_ := Aside0.mk (bD_ BK251.out)
            have n1_ := Aside0.mk (bD_ BK264.out)
            have n2_ := Aside0.mk (bD_ BK276.out)
            have n3_ := Aside0.mk (bY_ HB.out)
            clear BK251
            clear BK264
            clear BK276
            clear HB
            have BK251 := n0_
            have BK264 := n1_
            have BK276 := n2_
            have HB := n3_
            clear n0_ n1_ n2_ n3_
            refine start_ (n := 32) (S := fun w' => w'.cell? ⟨gb251, 0, none⟩ = some (.int .u8 a1_0) ∧ w'.cell? ⟨gb251, 1, none⟩ = some (.int .i64 a1_1) ∧ w'.cell? ⟨gb251, 2, none⟩ = some (.int .i64 a1_2) ∧ w'.cell? ⟨gb251, 3, none⟩ = some (.int .i64 a1_3) ∧ w'.cell? ⟨gb251, 4, none⟩ = some (.int .i64 a1_4) ∧ w'.cell? ⟨gb251, 5, none⟩ = some (.int .i64 a1_5) ∧ w'.cell? ⟨gb251, 6, none⟩ = some (.bool a1_6) ∧ w'.cell? ⟨gb251, 7, none⟩ = some (.int .i64 a1_7)) (ds := []) #[false, false, false, false, false, false, false, false, false, false, false, false, false, false, false, false, false, false, false, false, false, false, false, false, false, false, false, false, false, false, false, false] (by kernel_rfl) rfl rfl ⟨(bC_ BK251.out 0).trans rfl, (bC_ BK251.out 1).trans rfl, (bC_ BK251.out 2).trans rfl, (bC_ BK251.out 3).trans rfl, (bC_ BK251.out 4).trans rfl, (bC_ BK251.out 5).trans rfl, (bC_ BK251.out 6).trans rfl, (bC_ BK251.out 7).trans rfl⟩ (fun hHeld => ?_); refine with_tabW lTl.tab9 lTl.bits9 (fun HT_ HW_ => ?_)
            generalize wc.drew = w126 at BK251 BK264 BK276 HB hHeld ⊢
            refine take_ (i := 0) (N := some 93) (v := ?_) (a' := ?_) #[true, false, false, false, false, false, false, false, false, false, false, false, false, false, false, false, false, false, false, false, false, false, false, false, false, false, false, false, false, false, false, false] rfl rfl (take_ofW HT_.out HW_.out (by kernel_rfl)) (fun _ _ _ h => h) (Or.inl ⟨by rfl, ?_⟩) hHeld ?_ ?_
            rotate_left
            · rintro w' ⟨s0, s1, s2, s3, s4, s5, s6, s7⟩
              go_simp
              with_reducible rfl
            rotate_left
            · simp only [Act.put, List.setIfInBounds_toArray, List.set_cons_zero, List.set_cons_succ, i64_w, i32_w]
              rfl
            refine take_ (i := 2) (N := some 95) (v := ?_) (a' := ?_) #[true, false, true, false, false, false, false, false, false, false, false, false, false, false, false, false, false, false, false, false, false, false, false, false, false, false, false, false, false, false, false, false] rfl rfl (take_ofW HT_.out HW_.out (by kernel_rfl)) (fun _ _ _ h => h) (Or.inl ⟨by rfl, ?_⟩) hHeld ?_ ?_
            rotate_left
            · rintro w' ⟨s0, s1, s2, s3, s4, s5, s6, s7⟩
              go_simp
              with_reducible rfl
            rotate_left
            · simp only [Act.put, List.setIfInBounds_toArray, List.set_cons_zero, List.set_cons_succ, i64_w, i32_w]
              rfl
            refine one_ (i := 1) (N := some 94) #[true, true, true, false, false, false, false, false, false, false, false, false, false, false, false, false, false, false, false, false, false, false, false, false, false, false, false, false, false, false, false, false] rfl rfl (one_of HT_.out (by kernel_rfl)) (by decide) (fun K hK => ?_)
            refine goes_ Tryd.func15 (by kernel_rfl) rfl #[.agg #[.int .u8 a1_0, .int .i64 a1_1, .int .i64 a1_2, .int .i64 a1_3, .int .i64 a1_4, .int .i64 a1_5, .bool a1_6, .int .i64 a1_7]] (by rfl) rfl rfl (by (try simp only [List.map_toArray, List.map_cons, List.map_nil]); first | done | rfl | (simp only [List.length_drop, List.length_take]; rfl)) ?_
            with_reducible refine (operand_Right.calls kj13 a1_0 a1_1 a1_2 a1_3 a1_4 a1_5 a1_6 a1_7 t288 _ A73.out).mono ?_
            rintro e w127 ⟨rfl, hb⟩
            refine ⟨_, rfl, ?_⟩
            have n0_ := Aside0.mk (blk_below (g := gb251) (o := .cells #[.int .u8 a1_0, .int .i64 a1_1, .int .i64 a1_2, .int .i64 a1_3, .int .i64 a1_4, .int .i64 a1_5, .bool a1_6, .int .i64 a1_7] 23 (0, 0)) (by (with_reducible repeat (first | refine bN_ ?_ _ | refine bD_ ?_ | refine bA_ ?_ _)); exact BK251.out) hb)
            have n1_ := Aside0.mk (blk_below (g := gb264) (o := .cells #[.int .u8 t254, .int .i64 t255, .int .i64 t256, .int .i64 t257, .int .i64 t258, .int .i64 t259, .bool t260, .int .i64 t261] 23 (0, 0)) (by (with_reducible repeat (first | refine bN_ ?_ _ | refine bD_ ?_ | refine bA_ ?_ _)); exact BK264.out) hb)
            have n2_ := Aside0.mk (blk_below (g := gb276) (o := .cells #[.int .u8 t266, .int .i64 t267, .int .i64 t268, .int .i64 t269, .int .i64 t270, .int .i64 t271, .bool t272, .int .i64 t273] 23 (0, 0)) (by (with_reducible repeat (first | refine bN_ ?_ _ | refine bD_ ?_ | refine bA_ ?_ _)); exact BK276.out) hb)
            have n3_ := Aside0.mk (below_step (by repeat (first | (with_reducible first | exact HB.out | apply bX_ | apply bW_ | apply bY_ | refine bS_ ?_ GE251.out | refine bS_ ?_ GE264.out | refine bS_ ?_ GE276.out) | exact HB.out)) hb)
            clear BK251
            clear BK264
            clear BK276
            clear HB
            have BK251 := n0_
            have BK264 := n1_
            have BK276 := n2_
            have HB := n3_
            clear n0_ n1_ n2_ n3_
            (try clear hb)
            (try clear hb2)
            (try clear hk)
            (try clear hi)
            refine hK.out _ _ ⟨(bC_ BK251.out 0).trans rfl, (bC_ BK251.out 1).trans rfl, (bC_ BK251.out 2).trans rfl, (bC_ BK251.out 3).trans rfl, (bC_ BK251.out 4).trans rfl, (bC_ BK251.out 5).trans rfl, (bC_ BK251.out 6).trans rfl, (bC_ BK251.out 7).trans rfl⟩ (fun hHeld => ?_)
            clear hK K
            refine norm_ (a' := ?_) ?_ ?_
            rotate_left
            · show Act.put _ (some 94) _ = _
              simp only [Act.put, List.setIfInBounds_toArray, List.set_cons_zero, List.set_cons_succ, i64_w, i32_w]
              rfl
            refine one_ (i := 3) (N := some 96) #[true, true, true, true, false, false, false, false, false, false, false, false, false, false, false, false, false, false, false, false, false, false, false, false, false, false, false, false, false, false, false, false] rfl rfl (one_of HT_.out (by kernel_rfl)) (by decide) (fun K hK => ?_)
            refine goes_ Tryd.func10 (by kernel_rfl) rfl #[.agg #[.int .u8 a1_0, .int .i64 a1_1, .int .i64 a1_2, .int .i64 a1_3, .int .i64 a1_4, .int .i64 a1_5, .bool a1_6, .int .i64 a1_7]] (by rfl) rfl rfl (by (try simp only [List.map_toArray, List.map_cons, List.map_nil]); first | done | rfl | (simp only [List.length_drop, List.length_take]; rfl)) ?_
            with_reducible refine (r8_Right.calls kj13 a1_0 a1_1 a1_2 a1_3 a1_4 a1_5 a1_6 a1_7 t289 _ A74.out).mono ?_
            rintro e w128 ⟨rfl, hb⟩
            refine ⟨_, rfl, ?_⟩
            have n0_ := Aside0.mk (blk_below (g := gb251) (o := .cells #[.int .u8 a1_0, .int .i64 a1_1, .int .i64 a1_2, .int .i64 a1_3, .int .i64 a1_4, .int .i64 a1_5, .bool a1_6, .int .i64 a1_7] 23 (0, 0)) (by (with_reducible repeat (first | refine bN_ ?_ _ | refine bD_ ?_ | refine bA_ ?_ _)); exact BK251.out) hb)
            have n1_ := Aside0.mk (blk_below (g := gb264) (o := .cells #[.int .u8 t254, .int .i64 t255, .int .i64 t256, .int .i64 t257, .int .i64 t258, .int .i64 t259, .bool t260, .int .i64 t261] 23 (0, 0)) (by (with_reducible repeat (first | refine bN_ ?_ _ | refine bD_ ?_ | refine bA_ ?_ _)); exact BK264.out) hb)
            have n2_ := Aside0.mk (blk_below (g := gb276) (o := .cells #[.int .u8 t266, .int .i64 t267, .int .i64 t268, .int .i64 t269, .int .i64 t270, .int .i64 t271, .bool t272, .int .i64 t273] 23 (0, 0)) (by (with_reducible repeat (first | refine bN_ ?_ _ | refine bD_ ?_ | refine bA_ ?_ _)); exact BK276.out) hb)
            have n3_ := Aside0.mk (below_step (by repeat (first | (with_reducible first | exact HB.out | apply bX_ | apply bW_ | apply bY_ | refine bS_ ?_ GE251.out | refine bS_ ?_ GE264.out | refine bS_ ?_ GE276.out) | exact HB.out)) hb)
            clear BK251
            clear BK264
            clear BK276
            clear HB
            have BK251 := n0_
            have BK264 := n1_
            have BK276 := n2_
            have HB := n3_
            clear n0_ n1_ n2_ n3_
            (try clear hb)
            (try clear hb2)
            (try clear hk)
            (try clear hi)
            refine hK.out _ _ ⟨(bC_ BK251.out 0).trans rfl, (bC_ BK251.out 1).trans rfl, (bC_ BK251.out 2).trans rfl, (bC_ BK251.out 3).trans rfl, (bC_ BK251.out 4).trans rfl, (bC_ BK251.out 5).trans rfl, (bC_ BK251.out 6).trans rfl, (bC_ BK251.out 7).trans rfl⟩ (fun hHeld => ?_)
            clear hK K
            refine norm_ (a' := ?_) ?_ ?_
            rotate_left
            · show Act.put _ (some 96) _ = _
              simp only [Act.put, List.setIfInBounds_toArray, List.set_cons_zero, List.set_cons_succ, i64_w, i32_w]
              rfl
            refine pure_ (i := 4) (N := some 97) (v := ?_) (a' := ?_) #[true, true, true, true, true, false, false, false, false, false, false, false, false, false, false, false, false, false, false, false, false, false, false, false, false, false, false, false, false, false, false, false] rfl rfl (any_of HT_.out (by kernel_rfl)) (fun _ _ _ h => h) (Or.inl ⟨by rfl, ?_⟩) ?_ ?_
            rotate_left
            · intro w'
              go_simp
              with_reducible rfl
            rotate_left
            · simp only [Act.put, List.setIfInBounds_toArray, List.set_cons_zero, List.set_cons_succ, i64_w, i32_w]
              rfl
            refine pure_ (i := 5) (N := some 98) (v := ?_) (a' := ?_) #[true, true, true, true, true, true, false, false, false, false, false, false, false, false, false, false, false, false, false, false, false, false, false, false, false, false, false, false, false, false, false, false] rfl rfl (any_of HT_.out (by kernel_rfl)) (fun _ _ _ h => h) (Or.inl ⟨by rfl, ?_⟩) ?_ ?_
            rotate_left
            · intro w'
              go_simp
              with_reducible rfl
            rotate_left
            · simp only [Act.put, List.setIfInBounds_toArray, List.set_cons_zero, List.set_cons_succ, i64_w, i32_w]
              rfl
            refine pure_ (i := 6) (N := some 99) (v := undef) (a' := ?_) #[true, true, true, true, true, true, true, false, false, false, false, false, false, false, false, false, false, false, false, false, false, false, false, false, false, false, false, false, false, false, false, false] rfl rfl (any_of HT_.out (by kernel_rfl)) (fun _ _ _ h => h) (Or.inr ⟨by rfl, rfl⟩) ?_ ?_
            rotate_left
            · simp only [Act.put, List.setIfInBounds_toArray, List.set_cons_zero, List.set_cons_succ, i64_w, i32_w]
              rfl
            refine pure_ (i := 7) (N := some 100) (v := undef) (a' := ?_) #[true, true, true, true, true, true, true, true, false, false, false, false, false, false, false, false, false, false, false, false, false, false, false, false, false, false, false, false, false, false, false, false] rfl rfl (any_of HT_.out (by kernel_rfl)) (fun _ _ _ h => h) (Or.inr ⟨by rfl, rfl⟩) ?_ ?_
            rotate_left
            · simp only [Act.put, List.setIfInBounds_toArray, List.set_cons_zero, List.set_cons_succ, i64_w, i32_w]
              rfl
            refine pure_ (i := 8) (N := some 101) (v := undef) (a' := ?_) #[true, true, true, true, true, true, true, true, true, false, false, false, false, false, false, false, false, false, false, false, false, false, false, false, false, false, false, false, false, false, false, false] rfl rfl (any_of HT_.out (by kernel_rfl)) (fun _ _ _ h => h) (Or.inr ⟨by rfl, rfl⟩) ?_ ?_
            rotate_left
            · simp only [Act.put, List.setIfInBounds_toArray, List.set_cons_zero, List.set_cons_succ, i64_w, i32_w]
              rfl
            refine pure_ (i := 9) (N := some 102) (v := undef) (a' := ?_) #[true, true, true, true, true, true, true, true, true, true, false, false, false, false, false, false, false, false, false, false, false, false, false, false, false, false, false, false, false, false, false, false] rfl rfl (any_of HT_.out (by kernel_rfl)) (fun _ _ _ h => h) (Or.inr ⟨by rfl, rfl⟩) ?_ ?_
            rotate_left
            · simp only [Act.put, List.setIfInBounds_toArray, List.set_cons_zero, List.set_cons_succ, i64_w, i32_w]
              rfl
            refine pure_ (i := 10) (N := some 103) (v := undef) (a' := ?_) #[true, true, true, true, true, true, true, true, true, true, true, false, false, false, false, false, false, false, false, false, false, false, false, false, false, false, false, false, false, false, false, false] rfl rfl (any_of HT_.out (by kernel_rfl)) (fun _ _ _ h => h) (Or.inr ⟨by rfl, rfl⟩) ?_ ?_
            rotate_left
            · simp only [Act.put, List.setIfInBounds_toArray, List.set_cons_zero, List.set_cons_succ, i64_w, i32_w]
              rfl
            refine pure_ (i := 11) (N := some 104) (v := ?_) (a' := ?_) #[true, true, true, true, true, true, true, true, true, true, true, true, false, false, false, false, false, false, false, false, false, false, false, false, false, false, false, false, false, false, false, false] rfl rfl (any_of HT_.out (by kernel_rfl)) (fun _ _ _ h => h) (Or.inl ⟨by rfl, ?_⟩) ?_ ?_
            rotate_left
            · intro w'
              go_simp
              with_reducible rfl
            rotate_left
            · simp only [Act.put, List.setIfInBounds_toArray, List.set_cons_zero, List.set_cons_succ, i64_w, i32_w]
              rfl
            refine pure_ (i := 12) (N := some 105) (v := ?_) (a' := ?_) #[true, true, true, true, true, true, true, true, true, true, true, true, true, false, false, false, false, false, false, false, false, false, false, false, false, false, false, false, false, false, false, false] rfl rfl (any_of HT_.out (by kernel_rfl)) (fun _ _ _ h => h) (Or.inl ⟨by rfl, ?_⟩) ?_ ?_
            rotate_left
            · intro w'
              go_simp
              with_reducible rfl
            rotate_left
            · simp only [Act.put, List.setIfInBounds_toArray, List.set_cons_zero, List.set_cons_succ, i64_w, i32_w]
              rfl
            refine pure_ (i := 13) (N := some 106) (v := undef) (a' := ?_) #[true, true, true, true, true, true, true, true, true, true, true, true, true, true, false, false, false, false, false, false, false, false, false, false, false, false, false, false, false, false, false, false] rfl rfl (any_of HT_.out (by kernel_rfl)) (fun _ _ _ h => h) (Or.inr ⟨by rfl, rfl⟩) ?_ ?_
            rotate_left
            · simp only [Act.put, List.setIfInBounds_toArray, List.set_cons_zero, List.set_cons_succ, i64_w, i32_w]
              rfl
            refine pure_ (i := 14) (N := some 107) (v := undef) (a' := ?_) #[true, true, true, true, true, true, true, true, true, true, true, true, true, true, true, false, false, false, false, false, false, false, false, false, false, false, false, false, false, false, false, false] rfl rfl (any_of HT_.out (by kernel_rfl)) (fun _ _ _ h => h) (Or.inr ⟨by rfl, rfl⟩) ?_ ?_
            rotate_left
            · simp only [Act.put, List.setIfInBounds_toArray, List.set_cons_zero, List.set_cons_succ, i64_w, i32_w]
              rfl
            refine pure_ (i := 15) (N := some 108) (v := undef) (a' := ?_) #[true, true, true, true, true, true, true, true, true, true, true, true, true, true, true, true, false, false, false, false, false, false, false, false, false, false, false, false, false, false, false, false] rfl rfl (any_of HT_.out (by kernel_rfl)) (fun _ _ _ h => h) (Or.inr ⟨by rfl, rfl⟩) ?_ ?_
            rotate_left
            · simp only [Act.put, List.setIfInBounds_toArray, List.set_cons_zero, List.set_cons_succ, i64_w, i32_w]
              rfl
            refine pure_ (i := 16) (N := some 109) (v := undef) (a' := ?_) #[true, true, true, true, true, true, true, true, true, true, true, true, true, true, true, true, true, false, false, false, false, false, false, false, false, false, false, false, false, false, false, false] rfl rfl (any_of HT_.out (by kernel_rfl)) (fun _ _ _ h => h) (Or.inr ⟨by rfl, rfl⟩) ?_ ?_
            rotate_left
            · simp only [Act.put, List.setIfInBounds_toArray, List.set_cons_zero, List.set_cons_succ, i64_w, i32_w]
              rfl
            refine pure_ (i := 17) (N := some 110) (v := undef) (a' := ?_) #[true, true, true, true, true, true, true, true, true, true, true, true, true, true, true, true, true, true, false, false, false, false, false, false, false, false, false, false, false, false, false, false] rfl rfl (any_of HT_.out (by kernel_rfl)) (fun _ _ _ h => h) (Or.inr ⟨by rfl, rfl⟩) ?_ ?_
            rotate_left
            · simp only [Act.put, List.setIfInBounds_toArray, List.set_cons_zero, List.set_cons_succ, i64_w, i32_w]
              rfl
            refine pure_ (i := 18) (N := some 111) (v := ?_) (a' := ?_) #[true, true, true, true, true, true, true, true, true, true, true, true, true, true, true, true, true, true, true, false, false, false, false, false, false, false, false, false, false, false, false, false] rfl rfl (any_of HT_.out (by kernel_rfl)) (fun _ _ _ h => h) (Or.inl ⟨by rfl, ?_⟩) ?_ ?_
            rotate_left
            · intro w'
              go_simp
              with_reducible rfl
            rotate_left
            · simp only [Act.put, List.setIfInBounds_toArray, List.set_cons_zero, List.set_cons_succ, i64_w, i32_w]
              rfl
            refine pure_ (i := 19) (N := some 112) (v := ?_) (a' := ?_) #[true, true, true, true, true, true, true, true, true, true, true, true, true, true, true, true, true, true, true, true, false, false, false, false, false, false, false, false, false, false, false, false] rfl rfl (any_of HT_.out (by kernel_rfl)) (fun _ _ _ h => h) (Or.inl ⟨by rfl, ?_⟩) ?_ ?_
            rotate_left
            · intro w'
              go_simp
              with_reducible rfl
            rotate_left
            · simp only [Act.put, List.setIfInBounds_toArray, List.set_cons_zero, List.set_cons_succ, i64_w, i32_w]
              rfl
            refine pure_ (i := 20) (N := some 113) (v := undef) (a' := ?_) #[true, true, true, true, true, true, true, true, true, true, true, true, true, true, true, true, true, true, true, true, true, false, false, false, false, false, false, false, false, false, false, false] rfl rfl (any_of HT_.out (by kernel_rfl)) (fun _ _ _ h => h) (Or.inr ⟨by rfl, rfl⟩) ?_ ?_
            rotate_left
            · simp only [Act.put, List.setIfInBounds_toArray, List.set_cons_zero, List.set_cons_succ, i64_w, i32_w]
              rfl
            refine pure_ (i := 21) (N := some 114) (v := undef) (a' := ?_) #[true, true, true, true, true, true, true, true, true, true, true, true, true, true, true, true, true, true, true, true, true, true, false, false, false, false, false, false, false, false, false, false] rfl rfl (any_of HT_.out (by kernel_rfl)) (fun _ _ _ h => h) (Or.inr ⟨by rfl, rfl⟩) ?_ ?_
            rotate_left
            · simp only [Act.put, List.setIfInBounds_toArray, List.set_cons_zero, List.set_cons_succ, i64_w, i32_w]
              rfl
            refine pure_ (i := 22) (N := some 115) (v := undef) (a' := ?_) #[true, true, true, true, true, true, true, true, true, true, true, true, true, true, true, true, true, true, true, true, true, true, true, false, false, false, false, false, false, false, false, false] rfl rfl (any_of HT_.out (by kernel_rfl)) (fun _ _ _ h => h) (Or.inr ⟨by rfl, rfl⟩) ?_ ?_
            rotate_left
            · simp only [Act.put, List.setIfInBounds_toArray, List.set_cons_zero, List.set_cons_succ, i64_w, i32_w]
              rfl
            refine pure_ (i := 23) (N := some 116) (v := undef) (a' := ?_) #[true, true, true, true, true, true, true, true, true, true, true, true, true, true, true, true, true, true, true, true, true, true, true, true, false, false, false, false, false, false, false, false] rfl rfl (any_of HT_.out (by kernel_rfl)) (fun _ _ _ h => h) (Or.inr ⟨by rfl, rfl⟩) ?_ ?_
            rotate_left
            · simp only [Act.put, List.setIfInBounds_toArray, List.set_cons_zero, List.set_cons_succ, i64_w, i32_w]
              rfl
            refine pure_ (i := 24) (N := some 117) (v := undef) (a' := ?_) #[true, true, true, true, true, true, true, true, true, true, true, true, true, true, true, true, true, true, true, true, true, true, true, true, true, false, false, false, false, false, false, false] rfl rfl (any_of HT_.out (by kernel_rfl)) (fun _ _ _ h => h) (Or.inr ⟨by rfl, rfl⟩) ?_ ?_
            rotate_left
            · simp only [Act.put, List.setIfInBounds_toArray, List.set_cons_zero, List.set_cons_succ, i64_w, i32_w]
              rfl
            refine pure_ (i := 25) (N := some 118) (v := undef) (a' := ?_) #[true, true, true, true, true, true, true, true, true, true, true, true, true, true, true, true, true, true, true, true, true, true, true, true, true, true, false, false, false, false, false, false] rfl rfl (any_of HT_.out (by kernel_rfl)) (fun _ _ _ h => h) (Or.inr ⟨by rfl, rfl⟩) ?_ ?_
            rotate_left
            · simp only [Act.put, List.setIfInBounds_toArray, List.set_cons_zero, List.set_cons_succ, i64_w, i32_w]
              rfl
            refine pure_ (i := 26) (N := some 119) (v := undef) (a' := ?_) #[true, true, true, true, true, true, true, true, true, true, true, true, true, true, true, true, true, true, true, true, true, true, true, true, true, true, true, false, false, false, false, false] rfl rfl (any_of HT_.out (by kernel_rfl)) (fun _ _ _ h => h) (Or.inr ⟨by rfl, rfl⟩) ?_ ?_
            rotate_left
            · simp only [Act.put, List.setIfInBounds_toArray, List.set_cons_zero, List.set_cons_succ, i64_w, i32_w]
              rfl
            refine pure_ (i := 27) (N := some 120) (v := ?_) (a' := ?_) #[true, true, true, true, true, true, true, true, true, true, true, true, true, true, true, true, true, true, true, true, true, true, true, true, true, true, true, true, false, false, false, false] rfl rfl (any_of HT_.out (by kernel_rfl)) (fun _ _ _ h => h) (Or.inl ⟨by rfl, ?_⟩) ?_ ?_
            rotate_left
            · intro w'
              go_simp
              with_reducible rfl
            rotate_left
            · simp only [Act.put, List.setIfInBounds_toArray, List.set_cons_zero, List.set_cons_succ, i64_w, i32_w]
              rfl
            refine pure_ (i := 28) (N := some 121) (v := ?_) (a' := ?_) #[true, true, true, true, true, true, true, true, true, true, true, true, true, true, true, true, true, true, true, true, true, true, true, true, true, true, true, true, true, false, false, false] rfl rfl (any_of HT_.out (by kernel_rfl)) (fun _ _ _ h => h) (Or.inl ⟨by rfl, ?_⟩) ?_ ?_
            rotate_left
            · intro w'
              go_simp
              with_reducible rfl
            rotate_left
            · simp only [Act.put, List.setIfInBounds_toArray, List.set_cons_zero, List.set_cons_succ, i64_w, i32_w]
              rfl
            refine pure_ (i := 29) (N := some 122) (v := undef) (a' := ?_) #[true, true, true, true, true, true, true, true, true, true, true, true, true, true, true, true, true, true, true, true, true, true, true, true, true, true, true, true, true, true, false, false] rfl rfl (any_of HT_.out (by kernel_rfl)) (fun _ _ _ h => h) (Or.inr ⟨by rfl, rfl⟩) ?_ ?_
            rotate_left
            · simp only [Act.put, List.setIfInBounds_toArray, List.set_cons_zero, List.set_cons_succ, i64_w, i32_w]
              rfl
            refine pure_ (i := 30) (N := some 123) (v := ?_) (a' := ?_) #[true, true, true, true, true, true, true, true, true, true, true, true, true, true, true, true, true, true, true, true, true, true, true, true, true, true, true, true, true, true, true, false] rfl rfl (any_of HT_.out (by kernel_rfl)) (fun _ _ _ h => h) (Or.inl ⟨by rfl, ?_⟩) ?_ ?_
            rotate_left
            · intro w'
              go_simp
              with_reducible rfl
            rotate_left
            · simp only [Act.put, List.setIfInBounds_toArray, List.set_cons_zero, List.set_cons_succ, i64_w, i32_w]
              rfl
            refine pure_ (i := 31) (N := some 10) (v := ?_) (a' := ?_) #[true, true, true, true, true, true, true, true, true, true, true, true, true, true, true, true, true, true, true, true, true, true, true, true, true, true, true, true, true, true, true, true] rfl rfl (any_of HT_.out (by kernel_rfl)) (fun _ _ _ h => h) (Or.inl ⟨by rfl, ?_⟩) ?_ ?_
            rotate_left
            · intro w'
              go_simp
              with_reducible rfl
            rotate_left
            · simp only [Act.put, List.setIfInBounds_toArray, List.set_cons_zero, List.set_cons_succ, i64_w, i32_w]
              rfl
            refine done_ (done_of HT_.out (by kernel_rfl)) ?_
            try go_wp2
            go_ret
            exact ⟨by first | rfl | (simp [errW_none, errW_some] <;> rfl) | (simp [*, errW_none, errW_some] <;> rfl), by repeat (first | (with_reducible first | exact HB.out | apply bX_ | apply bW_ | apply bY_ | refine bS_ ?_ GE251.out | refine bS_ ?_ GE264.out | refine bS_ ?_ GE276.out) | exact HB.out)⟩
end Go.Proofs.YtppeidopijnnlaaDoor.C
