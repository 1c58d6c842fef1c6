/- Words and walks that were printed. -/
import Derived.Test.YtopldeeojehklaaDoorHb6
import Derived.Test.YtopldeeojehklaaDoorHb14
import Derived.Test.YtopldeeojehklaaDoorHb13
import Derived.Test.YtopldeeojehklaaDoorHb15
import Derived.Test.YtopldeeojehklaaDoorHb16
import Derived.Test.YtopldeeojehklaaDoorHb12
import Derived.Test.YtopldeeojehklaaDoorHb17
namespace Go.Proofs.YtopldeeojehklaaDoor.B
open Go.RowKit Go.Proofs.YtopldeeojehklaaDoorW.PrintWords Go.Proofs.YtopldeeojehklaaDoorW.PrintLast Go.Proofs.YtopldeeojehklaaDoorW.PrintMore
attribute [local go_sem] max2_int min2_int max_two min_two max_three min_three max_four min_four   -- for this text's walks alone
set_option linter.unusedVariables false
set_option linter.unusedSimpArgs false
attribute [local go_sem high] eqA30 eqA32
noncomputable def sundiallaw03_HeaderBack.T12 : Bool × List (List Nat × List Nat) := (true, [([], []), ([0], [0]), ([1], [1]), ([2], [2]), ([2], [2]), ([4, 2], [2, 4]), ([2], [2]), ([5, 6, 2], [2, 5, 6]), ([7, 2], [2, 7]), ([3, 8, 2], [2, 3, 8]), ([2, 9], [2, 9])])
noncomputable def sundiallaw03_HeaderBack.B12 : List Nat := [0, 1, 3, 7, 7, 23, 7, 119, 247, 511, 1023]
theorem sundiallaw03_HeaderBack.tab12 : rtab .any (opsOf Tryd.f4 12) = sundiallaw03_HeaderBack.T12 := by kernel_rfl
theorem sundiallaw03_HeaderBack.bits12 : waitsOk sundiallaw03_HeaderBack.T12.2 sundiallaw03_HeaderBack.B12 = true := by kernel_rfl
noncomputable def sundiallaw03_HeaderBack.T18 : Bool × List (List Nat × List Nat) := (true, [([], []), ([0], [0]), ([1], [1]), ([2], [2]), ([2], [2]), ([4, 2], [2, 4]), ([2], [2]), ([5, 6, 2], [2, 5, 6]), ([7, 2], [2, 7]), ([3, 8, 2], [2, 3, 8]), ([2, 9], [2, 9])])
noncomputable def sundiallaw03_HeaderBack.B18 : List Nat := [0, 1, 3, 7, 7, 23, 7, 119, 247, 511, 1023]
theorem sundiallaw03_HeaderBack.tab18 : rtab .any (opsOf Tryd.f4 18) = sundiallaw03_HeaderBack.T18 := by kernel_rfl
theorem sundiallaw03_HeaderBack.bits18 : waitsOk sundiallaw03_HeaderBack.T18.2 sundiallaw03_HeaderBack.B18 = true := by kernel_rfl
noncomputable def sundiallaw03_HeaderBack.T20 : Bool × List (List Nat × List Nat) := (true, [([], []), ([0], [0]), ([1], [1]), ([2], [2]), ([2], [2]), ([3, 4, 2, 2], [2, 3, 4]), ([2, 5], [2, 5]), ([6, 5], [6]), ([7], [7]), ([8, 7, 7], [7, 8]), ([7], [7]), ([10, 7], [7, 10]), ([9, 11, 9, 7], [7, 9, 11]), ([7, 12], [7, 12]), ([13, 12], [13]), ([14, 14], [14]), ([14, 15], [14, 15]), ([16, 15, 0, 1, 2, 3, 4, 5, 6, 7, 8, 9, 10, 11, 12, 13, 14, 15, 16], [16])])
noncomputable def sundiallaw03_HeaderBack.B20 : List Nat := [0, 1, 3, 7, 7, 31, 63, 127, 255, 511, 255, 1279, 4095, 8191, 16383, 32767, 65535, 131071]
theorem sundiallaw03_HeaderBack.tab20 : rtab .any (opsOf Tryd.f4 20) = sundiallaw03_HeaderBack.T20 := by kernel_rfl
theorem sundiallaw03_HeaderBack.bits20 : waitsOk sundiallaw03_HeaderBack.T20.2 sundiallaw03_HeaderBack.B20 = true := by kernel_rfl
theorem sundiallaw03_HeaderBack.some_no : ¬ (some false = some true) := by decide
set_option maxHeartbeats 8000000 in
set_option maxRecDepth 100000 in
theorem sundiallaw03_HeaderBack.calls (k : Nat) (a0_0 : Int) (a0_1 : Int) (a0_2 : Int) (A0_3 : Option Addr) (c0_3 : Nat) (l0_3 : List (S30)) (A0_4 : Option Addr) (c0_4 : Nat) (l0_4 : List (S32)) (A1 : Option Addr) (c1 : Nat) (l1 : List Int) (w : World) (hr0_3 : Kd.C k30 w A0_3 l0_3.length l0_3) (hc0_3 : l0_3.length ≤ c0_3) (hr0_4 : Kd.C k32 w A0_4 l0_4.length l0_4) (hc0_4 : l0_4.length ≤ c0_4) (hr1 : Kd.C (Kd.int .u8) w A1 l1.length l1) (hc1 : l1.length ≤ c1) (hT_ : Tab w) (h : sundiallaw03_HeaderBack.f k a0_0 a0_1 a0_2 l0_3 l0_4 l1 = some true) :
    Calls Tryd.prog 4 #[.agg #[.int .u64 a0_0, .int .u64 a0_1, .int .u64 a0_2, .slice A0_3 l0_3.length c0_3, .slice A0_4 l0_4.length c0_4], .slice A1 l1.length c1] w fun e w' => e = .returned (.bool true) ∧ Below w.heap.size w w' := by
  have HTAB := Aside0.mk hT_
  clear hT_
  have hu27 := Tryd.underlying27
  have hu30 := Tryd.underlying30
  have hu32 := Tryd.underlying32
  have HR0_3 := Aside0.mk hr0_3
  have HC0_3 := Aside0.mk hc0_3
  clear hr0_3 hc0_3
  have HR0_4 := Aside0.mk hr0_4
  have HC0_4 := Aside0.mk hc0_4
  clear hr0_4 hc0_4
  have HR1 := Aside0.mk hr1
  have HC1 := Aside0.mk hc1
  clear hr1 hc1
  have HB := Aside0.mk (Below.refl w.heap.size w)
  have H : ((sundiallaw03_great.f a0_0 a0_1 a0_2 l0_3 l0_4 l1).bind fun t364 => (if t364 = true then ((sundiallaw03_wakes.f).bind fun t365 => (some t365)) else ((sundialref03_Laid.f k a0_0 a0_1 a0_2 l0_3 l0_4 l1).bind fun t366 => ((header_Read.f t366).bind fun bt369 => (if (l0_3.length : Int) > 16 then (sundiallaw03_HeaderBack.j0 k t366 bt369.2.2.2.2.2 true a0_0 a0_1 a0_2 l0_3 l0_4 bt369.1 bt369.2.1 bt369.2.2.1 bt369.2.2.2.1 bt369.2.2.2.2.1) else (sundiallaw03_HeaderBack.j0 k t366 bt369.2.2.2.2.2 (decide ((l0_4.length : Int) > 32)) a0_0 a0_1 a0_2 l0_3 l0_4 bt369.1 bt369.2.1 bt369.2.2.1 bt369.2.2.2.1 bt369.2.2.2.2.1)))))) = some true := h
  clear h
  replace H := Option.bind_eq_some_iff.mp H
  obtain ⟨t364, A30, H⟩ := H
  replace H : (if t364 = true then ((sundiallaw03_wakes.f).bind fun t365 => (some t365)) else ((sundialref03_Laid.f k a0_0 a0_1 a0_2 l0_3 l0_4 l1).bind fun t366 => ((header_Read.f t366).bind fun bt369 => (if (l0_3.length : Int) > 16 then (sundiallaw03_HeaderBack.j0 k t366 bt369.2.2.2.2.2 true a0_0 a0_1 a0_2 l0_3 l0_4 bt369.1 bt369.2.1 bt369.2.2.1 bt369.2.2.2.1 bt369.2.2.2.2.1) else (sundiallaw03_HeaderBack.j0 k t366 bt369.2.2.2.2.2 (decide ((l0_4.length : Int) > 32)) a0_0 a0_1 a0_2 l0_3 l0_4 bt369.1 bt369.2.1 bt369.2.2.1 bt369.2.2.2.1 bt369.2.2.2.2.1))))) = some true := H
  have A3 := Aside0.mk A30
  clear A30
  by_cases c4 : t364 = true
  · subst c4
    have H1 : ((sundiallaw03_wakes.f).bind fun t365 => (some t365)) = some true := by rw [if_pos rfl] at H; exact H
    clear H
    have H := H1
    clear H1
    replace H := Option.bind_eq_some_iff.mp H
    obtain ⟨t365, A50, H⟩ := H
    replace H : (some t365) = some true := H
    have A5 := Aside0.mk A50
    clear A50
    obtain rfl := Option.some.inj H
    go_enter Tryd.func4, Tryd.ntmps4
    go_wp2_with (first | ((with_reducible refine gate_dst (N := 2) rfl ?_); (try (refine gate_guard (by rfl) ?_; dsimp only)); refine box_event ?hg (N := 2) ?hd (cs := #[.int .u64 a0_0, .int .u64 a0_1, .int .u64 a0_2, .slice A0_3 l0_3.length c0_3, .slice A0_4 l0_4.length c0_4]) (t := 27) ?hr ?_; (case hd => rfl); (case hg => rfl); (case hr => first | (go_simp; done) | (go_simp; rfl)); intro gb363 hg w6 hbox hb; have n0_ := Aside0.mk (below_step (by repeat (first | (with_reducible first | exact HB.out | apply bX_ | apply bW_ | apply bY_) | exact HB.out)) hb); have n1_ := Aside0.mk (hbox); have n2_ := Aside0.mk ((by rw [hg]; exact (below_size (by repeat (first | (with_reducible first | exact HB.out | apply bX_ | apply bW_ | apply bY_) | exact HB.out))) : w.heap.size ≤ gb363)); have n3_ := Aside0.mk ((by rw [hg]; exact (below_size (by repeat (first | (with_reducible first | exact HB.out | apply bX_ | apply bW_ | apply bY_) | exact HB.out))) : w.heap.size ≤ gb363)); clear HB; have HB := n0_; have BK363 := n1_; have GW363 := n2_; have GE363 := n3_; clear n0_ n1_ n2_ n3_; clear hb hbox hg; have hcz7_0 : w6.cell? ⟨gb363, 0, none⟩ = some (.int .u64 a0_0) := (bC_ BK363.out 0).trans rfl; have hcz7_1 : w6.cell? ⟨gb363, 1, none⟩ = some (.int .u64 a0_1) := (bC_ BK363.out 1).trans rfl; have hcz7_2 : w6.cell? ⟨gb363, 2, none⟩ = some (.int .u64 a0_2) := (bC_ BK363.out 2).trans rfl; have hcz7_3 : w6.cell? ⟨gb363, 3, none⟩ = some (.slice A0_3 l0_3.length c0_3) := (bC_ BK363.out 3).trans rfl; have hcz7_4 : w6.cell? ⟨gb363, 4, none⟩ = some (.slice A0_4 l0_4.length c0_4) := (bC_ BK363.out 4).trans rfl; have hfz7_0 := bF_ BK363.out 0; have hfz7_1 := bF_ BK363.out 1; have hfz7_2 := bF_ BK363.out 2; have hfz7_3 := bF_ BK363.out 3; have hfz7_4 := bF_ BK363.out 4) | ((with_reducible refine gate_callee (f := 8) rfl ?_); refine goesL_ (some 16) rfl rfl Tryd.func8 (by kernel_rfl) rfl #[.agg #[.int .u64 a0_0, .int .u64 a0_1, .int .u64 a0_2, .slice A0_3 l0_3.length c0_3, .slice A0_4 l0_4.length c0_4], .slice A1 l1.length c1] rfl (by (try simp only [List.map_toArray, List.map_cons, List.map_nil]); first | done | rfl | (simp only [List.length_drop, List.length_take]; rfl)) ?_; (with_reducible refine (sundiallaw03_great.calls a0_0 a0_1 a0_2 _ _ l0_3 _ _ l0_4 _ _ l1 true _ ?side1 ?side2 ?side3 ?side4 ?side5 ?side6 A3.out).mono ?_); (case side1 => repeat (first | exact (Kd.C_below HR0_3.out HB.out) | (with_reducible refine Kd.C_alloc ?_ _) | (with_reducible refine Kd.C_drewN ?_ _) | (with_reducible refine Kd.C_drew ?_))); (case side2 => exact HC0_3.out); (case side3 => repeat (first | exact (Kd.C_below HR0_4.out HB.out) | (with_reducible refine Kd.C_alloc ?_ _) | (with_reducible refine Kd.C_drewN ?_ _) | (with_reducible refine Kd.C_drew ?_))); (case side4 => exact HC0_4.out); (case side5 => repeat (first | exact (Kd.C_below HR1.out HB.out) | (with_reducible refine Kd.C_alloc ?_ _) | (with_reducible refine Kd.C_drewN ?_ _) | (with_reducible refine Kd.C_drew ?_))); (case side6 => exact HC1.out); rintro e w8 ⟨rfl, hb⟩; refine ⟨_, rfl, ?_⟩; have n0_ := Aside0.mk (blk_below (g := gb363) (o := .cells #[.int .u64 a0_0, .int .u64 a0_1, .int .u64 a0_2, .slice A0_3 l0_3.length c0_3, .slice A0_4 l0_4.length c0_4] 27 (0, 0)) (by (with_reducible repeat (first | refine bN_ ?_ _ | refine bD_ ?_ | refine bA_ ?_ _)); exact BK363.out) hb); have n1_ := Aside0.mk (below_step (by repeat (first | (with_reducible first | exact HB.out | apply bX_ | apply bW_ | apply bY_ | refine bS_ ?_ GE363.out) | exact HB.out)) hb); clear BK363; clear HB; have BK363 := n0_; have HB := n1_; clear n0_ n1_; (try clear hb); (try clear hb2); (try clear hk); (try clear hi)) | ((with_reducible refine gate_callee (f := 9) rfl ?_); refine goesL_ (some 17) rfl rfl Tryd.func9 (by kernel_rfl) rfl #[] rfl (by (try simp only [List.map_toArray, List.map_cons, List.map_nil]); first | done | rfl | (simp only [List.length_drop, List.length_take]; rfl)) ?_; (with_reducible refine (sundiallaw03_wakes.calls true _ (Tab.below HTAB.out (by repeat (first | (with_reducible first | exact HB.out | apply bX_ | apply bW_ | apply bY_ | refine bS_ ?_ GE363.out) | exact HB.out))) A5.out).mono ?_); rintro e w9 ⟨rfl, hb⟩; refine ⟨_, rfl, ?_⟩; have n0_ := Aside0.mk (blk_below (g := gb363) (o := .cells #[.int .u64 a0_0, .int .u64 a0_1, .int .u64 a0_2, .slice A0_3 l0_3.length c0_3, .slice A0_4 l0_4.length c0_4] 27 (0, 0)) (by (with_reducible repeat (first | refine bN_ ?_ _ | refine bD_ ?_ | refine bA_ ?_ _)); exact BK363.out) hb); have n1_ := Aside0.mk (below_step (by repeat (first | (with_reducible first | exact HB.out | apply bX_ | apply bW_ | apply bY_ | refine bS_ ?_ GE363.out) | exact HB.out)) hb); clear BK363; clear HB; have BK363 := n0_; have HB := n1_; clear n0_ n1_; (try clear hb); (try clear hb2); (try clear hk); (try clear hi)))
    go_ret
    exact ⟨by first | rfl | (simp [errW_none, errW_some] <;> rfl) | (simp [*, errW_none, errW_some] <;> rfl), by repeat (first | (with_reducible first | exact HB.out | apply bX_ | apply bW_ | apply bY_ | refine bS_ ?_ GE363.out) | exact HB.out)⟩
  · replace c4 := Bool.eq_false_iff.mpr c4
    subst c4
    have H1 : ((sundialref03_Laid.f k a0_0 a0_1 a0_2 l0_3 l0_4 l1).bind fun t366 => ((header_Read.f t366).bind fun bt369 => (if (l0_3.length : Int) > 16 then (sundiallaw03_HeaderBack.j0 k t366 bt369.2.2.2.2.2 true a0_0 a0_1 a0_2 l0_3 l0_4 bt369.1 bt369.2.1 bt369.2.2.1 bt369.2.2.2.1 bt369.2.2.2.2.1) else (sundiallaw03_HeaderBack.j0 k t366 bt369.2.2.2.2.2 (decide ((l0_4.length : Int) > 32)) a0_0 a0_1 a0_2 l0_3 l0_4 bt369.1 bt369.2.1 bt369.2.2.1 bt369.2.2.2.1 bt369.2.2.2.2.1)))) = some true := by rw [if_neg (show ¬ (false = true) by decide)] at H; exact H
    clear H
    have H := H1
    clear H1
    replace H := Option.bind_eq_some_iff.mp H
    obtain ⟨t366, A100, H⟩ := H
    replace H : ((header_Read.f t366).bind fun bt369 => (if (l0_3.length : Int) > 16 then (sundiallaw03_HeaderBack.j0 k t366 bt369.2.2.2.2.2 true a0_0 a0_1 a0_2 l0_3 l0_4 bt369.1 bt369.2.1 bt369.2.2.1 bt369.2.2.2.1 bt369.2.2.2.2.1) else (sundiallaw03_HeaderBack.j0 k t366 bt369.2.2.2.2.2 (decide ((l0_4.length : Int) > 32)) a0_0 a0_1 a0_2 l0_3 l0_4 bt369.1 bt369.2.1 bt369.2.2.1 bt369.2.2.2.1 bt369.2.2.2.2.1))) = some true := H
    have A10 := Aside0.mk A100
    clear A100
    replace H := Option.bind_eq_some_iff.mp H
    obtain ⟨⟨t369, t370, t371, t372, t375, t378⟩, A110, H⟩ := H
    replace H : (if (l0_3.length : Int) > 16 then (sundiallaw03_HeaderBack.j0 k t366 t378 true a0_0 a0_1 a0_2 l0_3 l0_4 t369 t370 t371 t372 t375) else (sundiallaw03_HeaderBack.j0 k t366 t378 (decide ((l0_4.length : Int) > 32)) a0_0 a0_1 a0_2 l0_3 l0_4 t369 t370 t371 t372 t375)) = some true := H
    have A11 := Aside0.mk A110
    clear A110
    have HC12 := Aside0.mk H
    clear H
    go_enter Tryd.func4, Tryd.ntmps4
    go_upto_region 5 with (first | ((with_reducible refine gate_dst (N := 2) rfl ?_); (try (refine gate_guard (by rfl) ?_; dsimp only)); refine box_event ?hg (N := 2) ?hd (cs := #[.int .u64 a0_0, .int .u64 a0_1, .int .u64 a0_2, .slice A0_3 l0_3.length c0_3, .slice A0_4 l0_4.length c0_4]) (t := 27) ?hr ?_; (case hd => rfl); (case hg => rfl); (case hr => first | (go_simp; done) | (go_simp; rfl)); intro gb363 hg w13 hbox hb; have n0_ := Aside0.mk (below_step (by repeat (first | (with_reducible first | exact HB.out | apply bX_ | apply bW_ | apply bY_) | exact HB.out)) hb); have n1_ := Aside0.mk (hbox); have n2_ := Aside0.mk ((by rw [hg]; exact (below_size (by repeat (first | (with_reducible first | exact HB.out | apply bX_ | apply bW_ | apply bY_) | exact HB.out))) : w.heap.size ≤ gb363)); have n3_ := Aside0.mk ((by rw [hg]; exact (below_size (by repeat (first | (with_reducible first | exact HB.out | apply bX_ | apply bW_ | apply bY_) | exact HB.out))) : w.heap.size ≤ gb363)); clear HB; have HB := n0_; have BK363 := n1_; have GW363 := n2_; have GE363 := n3_; clear n0_ n1_ n2_ n3_; clear hb hbox hg; have hcz14_0 : w13.cell? ⟨gb363, 0, none⟩ = some (.int .u64 a0_0) := (bC_ BK363.out 0).trans rfl; have hcz14_1 : w13.cell? ⟨gb363, 1, none⟩ = some (.int .u64 a0_1) := (bC_ BK363.out 1).trans rfl; have hcz14_2 : w13.cell? ⟨gb363, 2, none⟩ = some (.int .u64 a0_2) := (bC_ BK363.out 2).trans rfl; have hcz14_3 : w13.cell? ⟨gb363, 3, none⟩ = some (.slice A0_3 l0_3.length c0_3) := (bC_ BK363.out 3).trans rfl; have hcz14_4 : w13.cell? ⟨gb363, 4, none⟩ = some (.slice A0_4 l0_4.length c0_4) := (bC_ BK363.out 4).trans rfl; have hfz14_0 := bF_ BK363.out 0; have hfz14_1 := bF_ BK363.out 1; have hfz14_2 := bF_ BK363.out 2; have hfz14_3 := bF_ BK363.out 3; have hfz14_4 := bF_ BK363.out 4) | ((with_reducible refine gate_callee (f := 8) rfl ?_); refine goesL_ (some 16) rfl rfl Tryd.func8 (by kernel_rfl) rfl #[.agg #[.int .u64 a0_0, .int .u64 a0_1, .int .u64 a0_2, .slice A0_3 l0_3.length c0_3, .slice A0_4 l0_4.length c0_4], .slice A1 l1.length c1] rfl (by (try simp only [List.map_toArray, List.map_cons, List.map_nil]); first | done | rfl | (simp only [List.length_drop, List.length_take]; rfl)) ?_; (with_reducible refine (sundiallaw03_great.calls a0_0 a0_1 a0_2 _ _ l0_3 _ _ l0_4 _ _ l1 false _ ?side1 ?side2 ?side3 ?side4 ?side5 ?side6 A3.out).mono ?_); (case side1 => repeat (first | exact (Kd.C_below HR0_3.out HB.out) | (with_reducible refine Kd.C_alloc ?_ _) | (with_reducible refine Kd.C_drewN ?_ _) | (with_reducible refine Kd.C_drew ?_))); (case side2 => exact HC0_3.out); (case side3 => repeat (first | exact (Kd.C_below HR0_4.out HB.out) | (with_reducible refine Kd.C_alloc ?_ _) | (with_reducible refine Kd.C_drewN ?_ _) | (with_reducible refine Kd.C_drew ?_))); (case side4 => exact HC0_4.out); (case side5 => repeat (first | exact (Kd.C_below HR1.out HB.out) | (with_reducible refine Kd.C_alloc ?_ _) | (with_reducible refine Kd.C_drewN ?_ _) | (with_reducible refine Kd.C_drew ?_))); (case side6 => exact HC1.out); rintro e w15 ⟨rfl, hb⟩; refine ⟨_, rfl, ?_⟩; have n0_ := Aside0.mk (blk_below (g := gb363) (o := .cells #[.int .u64 a0_0, .int .u64 a0_1, .int .u64 a0_2, .slice A0_3 l0_3.length c0_3, .slice A0_4 l0_4.length c0_4] 27 (0, 0)) (by (with_reducible repeat (first | refine bN_ ?_ _ | refine bD_ ?_ | refine bA_ ?_ _)); exact BK363.out) hb); have n1_ := Aside0.mk (below_step (by repeat (first | (with_reducible first | exact HB.out | apply bX_ | apply bW_ | apply bY_ | refine bS_ ?_ GE363.out) | exact HB.out)) hb); clear BK363; clear HB; have BK363 := n0_; have HB := n1_; clear n0_ n1_; (try clear hb); (try clear hb2); (try clear hk); (try clear hi); have hcz16_0 : w15.cell? ⟨gb363, 0, none⟩ = some (.int .u64 a0_0) := (bC_ BK363.out 0).trans rfl; have hcz16_1 : w15.cell? ⟨gb363, 1, none⟩ = some (.int .u64 a0_1) := (bC_ BK363.out 1).trans rfl; have hcz16_2 : w15.cell? ⟨gb363, 2, none⟩ = some (.int .u64 a0_2) := (bC_ BK363.out 2).trans rfl; have hcz16_3 : w15.cell? ⟨gb363, 3, none⟩ = some (.slice A0_3 l0_3.length c0_3) := (bC_ BK363.out 3).trans rfl; have hcz16_4 : w15.cell? ⟨gb363, 4, none⟩ = some (.slice A0_4 l0_4.length c0_4) := (bC_ BK363.out 4).trans rfl; have hfz16_0 := bF_ BK363.out 0; have hfz16_1 := bF_ BK363.out 1; have hfz16_2 := bF_ BK363.out 2; have hfz16_3 := bF_ BK363.out 3; have hfz16_4 := bF_ BK363.out 4) | ((with_reducible refine gate_callee (f := 24) rfl ?_); refine goesL_ (some 20) rfl rfl Tryd.func24 (by kernel_rfl) rfl #[.agg #[.int .u64 a0_0, .int .u64 a0_1, .int .u64 a0_2, .slice A0_3 l0_3.length c0_3, .slice A0_4 l0_4.length c0_4], .slice A1 l1.length c1] rfl (by (try simp only [List.map_toArray, List.map_cons, List.map_nil]); first | done | rfl | (simp only [List.length_drop, List.length_take]; rfl)) ?_; (with_reducible refine (sundialref03_Laid.calls k a0_0 a0_1 a0_2 _ _ l0_3 _ _ l0_4 _ _ l1 t366 _ ?side1 ?side2 ?side3 ?side4 ?side5 ?side6 A10.out).mono ?_); (case side1 => repeat (first | exact (Kd.C_below HR0_3.out HB.out) | (with_reducible refine Kd.C_alloc ?_ _) | (with_reducible refine Kd.C_drewN ?_ _) | (with_reducible refine Kd.C_drew ?_))); (case side2 => exact HC0_3.out); (case side3 => repeat (first | exact (Kd.C_below HR0_4.out HB.out) | (with_reducible refine Kd.C_alloc ?_ _) | (with_reducible refine Kd.C_drewN ?_ _) | (with_reducible refine Kd.C_drew ?_))); (case side4 => exact HC0_4.out); (case side5 => repeat (first | exact (Kd.C_below HR1.out HB.out) | (with_reducible refine Kd.C_alloc ?_ _) | (with_reducible refine Kd.C_drewN ?_ _) | (with_reducible refine Kd.C_drew ?_))); (case side6 => exact HC1.out); rintro e w17 ⟨v367, rfl, ho0, hb⟩; refine ⟨_, rfl, ?_⟩; have n0_ := Aside0.mk (Kd.R_lower ho0 (below_size (by repeat (first | (with_reducible first | exact HB.out | apply bX_ | apply bW_ | apply bY_ | refine bS_ ?_ GE363.out) | exact HB.out)))); have n1_ := Aside0.mk (blk_below (g := gb363) (o := .cells #[.int .u64 a0_0, .int .u64 a0_1, .int .u64 a0_2, .slice A0_3 l0_3.length c0_3, .slice A0_4 l0_4.length c0_4] 27 (0, 0)) (by (with_reducible repeat (first | refine bN_ ?_ _ | refine bD_ ?_ | refine bA_ ?_ _)); exact BK363.out) hb); have n2_ := Aside0.mk (below_step (by repeat (first | (with_reducible first | exact HB.out | apply bX_ | apply bW_ | apply bY_ | refine bS_ ?_ GE363.out) | exact HB.out)) hb); clear BK363; clear HB; have HO368 := n0_; have BK363 := n1_; have HB := n2_; clear n0_ n1_ n2_; (try clear hb); (try clear hb2); (try clear hk); (try clear hi); (try clear ho0); obtain ⟨Ao18, co18, eo18⟩ := Kd.R_slice HO368.out; subst eo18) | ((with_reducible refine gate_callee (f := 10) rfl ?_); refine goesL_ (some 23) rfl rfl Tryd.func10 (by kernel_rfl) rfl #[.slice Ao18 t366.length co18] rfl (by (try simp only [List.map_toArray, List.map_cons, List.map_nil]); first | done | rfl | (simp only [List.length_drop, List.length_take]; rfl)) ?_; (with_reducible refine (header_Read.calls _ _ t366 t369 t370 t371 t372 t375 t378 _ ?side1 ?side2 (Tab.below HTAB.out (by repeat (first | (with_reducible first | exact HB.out | apply bX_ | apply bW_ | apply bY_ | refine bS_ ?_ GE363.out) | exact HB.out))) A11.out).mono ?_); (case side1 => repeat (first | exact (Kd.R_reads' HO368.out).2.2 | (with_reducible refine Kd.C_alloc ?_ _) | (with_reducible refine Kd.C_drewN ?_ _) | (with_reducible refine Kd.C_drew ?_))); (case side2 => exact (Kd.R_reads' HO368.out).2.1); rintro e w19 ⟨v373, v376, rfl, ho0, ho1, hb⟩; refine ⟨_, rfl, ?_⟩; have n0_ := Aside0.mk (Kd.R_below (by (with_reducible repeat (first | apply Kd.R_alloc | apply Kd.R_drewN | apply Kd.R_drew)); exact HO368.out) hb); have n1_ := Aside0.mk (Kd.R_lower ho0 (below_size (by repeat (first | (with_reducible first | exact HB.out | apply bX_ | apply bW_ | apply bY_ | refine bS_ ?_ GE363.out) | exact HB.out)))); have n2_ := Aside0.mk (Kd.R_lower ho1 (below_size (by repeat (first | (with_reducible first | exact HB.out | apply bX_ | apply bW_ | apply bY_ | refine bS_ ?_ GE363.out) | exact HB.out)))); have n3_ := Aside0.mk (blk_below (g := gb363) (o := .cells #[.int .u64 a0_0, .int .u64 a0_1, .int .u64 a0_2, .slice A0_3 l0_3.length c0_3, .slice A0_4 l0_4.length c0_4] 27 (0, 0)) (by (with_reducible repeat (first | refine bN_ ?_ _ | refine bD_ ?_ | refine bA_ ?_ _)); exact BK363.out) hb); have n4_ := Aside0.mk (below_step (by repeat (first | (with_reducible first | exact HB.out | apply bX_ | apply bW_ | apply bY_ | refine bS_ ?_ GE363.out) | exact HB.out)) hb); clear HO368; clear BK363; clear HB; have HO368 := n0_; have HO374 := n1_; have HO377 := n2_; have BK363 := n3_; have HB := n4_; clear n0_ n1_ n2_ n3_ n4_; (try clear hb); (try clear hb2); (try clear hk); (try clear hi); (try clear ho0); (try clear ho1)) | ((with_reducible refine gate_dst (N := 6) rfl ?_); (try (refine gate_guard (by rfl) ?_; dsimp only)); refine box_event ?hg (N := 6) ?hd (cs := #[.int .u64 0, .int .u64 0, .int .u64 0, .slice none 0 0, .slice none 0 0]) (t := 27) ?hr ?_; (case hd => rfl); (case hg => rfl); (case hr => first | (go_simp; done) | (go_simp; rfl)); intro gb379 hg w20 hbox hb; have n0_ := Aside0.mk (Kd.R_below (by (with_reducible repeat (first | apply Kd.R_alloc | apply Kd.R_drewN | apply Kd.R_drew)); exact HO368.out) hb); have n1_ := Aside0.mk (Kd.R_below (by (with_reducible repeat (first | apply Kd.R_alloc | apply Kd.R_drewN | apply Kd.R_drew)); exact HO374.out) hb); have n2_ := Aside0.mk (Kd.R_below (by (with_reducible repeat (first | apply Kd.R_alloc | apply Kd.R_drewN | apply Kd.R_drew)); exact HO377.out) hb); have n3_ := Aside0.mk (blk_below (g := gb363) (o := .cells #[.int .u64 a0_0, .int .u64 a0_1, .int .u64 a0_2, .slice A0_3 l0_3.length c0_3, .slice A0_4 l0_4.length c0_4] 27 (0, 0)) (by (with_reducible repeat (first | refine bN_ ?_ _ | refine bD_ ?_ | refine bA_ ?_ _)); exact BK363.out) hb); have n4_ := Aside0.mk (below_step (by repeat (first | (with_reducible first | exact HB.out | apply bX_ | apply bW_ | apply bY_ | refine bS_ ?_ GE363.out) | exact HB.out)) hb); have n5_ := Aside0.mk (hbox); have n6_ := Aside0.mk ((by rw [hg]; exact (below_size (by repeat (first | (with_reducible first | exact HB.out | apply bX_ | apply bW_ | apply bY_ | refine bS_ ?_ GE363.out) | exact HB.out))) : w.heap.size ≤ gb379)); have n7_ := Aside0.mk ((by rw [hg]; exact (below_size (by repeat (first | (with_reducible first | exact HB.out | apply bX_ | apply bW_ | apply bY_ | refine bS_ ?_ GE363.out) | exact HB.out))) : w.heap.size ≤ gb379)); have n8_ := Aside0.mk ((by rw [hg]; exact Nat.ne_of_lt (blk_lt (g := gb363) (o := .cells #[.int .u64 a0_0, .int .u64 a0_1, .int .u64 a0_2, .slice A0_3 l0_3.length c0_3, .slice A0_4 l0_4.length c0_4] 27 (0, 0)) (by (with_reducible repeat (first | refine bN_ ?_ _ | refine bD_ ?_ | refine bA_ ?_ _)); exact BK363.out)) : gb363 ≠ gb379)); have n9_ := Aside0.mk ((by rw [hg]; exact Nat.ne_of_gt (blk_lt (g := gb363) (o := .cells #[.int .u64 a0_0, .int .u64 a0_1, .int .u64 a0_2, .slice A0_3 l0_3.length c0_3, .slice A0_4 l0_4.length c0_4] 27 (0, 0)) (by (with_reducible repeat (first | refine bN_ ?_ _ | refine bD_ ?_ | refine bA_ ?_ _)); exact BK363.out)) : gb379 ≠ gb363)); clear HO368; clear HO374; clear HO377; clear BK363; clear HB; have HO368 := n0_; have HO374 := n1_; have HO377 := n2_; have BK363 := n3_; have HB := n4_; have BK379 := n5_; have GW379 := n6_; have GE379 := n7_; have NB363_379 := n8_; have NB379_363 := n9_; clear n0_ n1_ n2_ n3_ n4_ n5_ n6_ n7_ n8_ n9_; clear hb hbox hg; have hnb21 := NB379_363.out; have hnc21 := NB363_379.out; have hcz22_0 : w20.cell? ⟨gb379, 0, none⟩ = some (.int .u64 0) := (bC_ BK379.out 0).trans rfl; have hcz22_1 : w20.cell? ⟨gb379, 1, none⟩ = some (.int .u64 0) := (bC_ BK379.out 1).trans rfl; have hcz22_2 : w20.cell? ⟨gb379, 2, none⟩ = some (.int .u64 0) := (bC_ BK379.out 2).trans rfl; have hcz22_3 : w20.cell? ⟨gb379, 3, none⟩ = some (.slice none 0 0) := (bC_ BK379.out 3).trans rfl; have hcz22_4 : w20.cell? ⟨gb379, 4, none⟩ = some (.slice none 0 0) := (bC_ BK379.out 4).trans rfl; have hfz22_0 := bF_ BK379.out 0; have hfz22_1 := bF_ BK379.out 1; have hfz22_2 := bF_ BK379.out 2; have hfz22_3 := bF_ BK379.out 3; have hfz22_4 := bF_ BK379.out 4; obtain ⟨Ao23, co23, eo23⟩ := Kd.R_slice HO374.out; subst eo23; obtain ⟨Ao24, co24, eo24⟩ := Kd.R_slice HO377.out; subst eo24))
    (try simp only [Act.put, List.setIfInBounds_toArray, List.set_cons_zero, List.set_cons_succ])
    go_cut [35] (fun v35 wc => ∃ (kq : Nat) (x35_11 : Bool), v35 = .bool x35_11 ∧ Aside0 (sundiallaw03_HeaderBack.j0 kq t366 t378 x35_11 a0_0 a0_1 a0_2 l0_3 l0_4 t369 t370 t371 t372 t375 = some true) ∧ Aside0 (kq ≤ k) ∧ Aside0 (Kd.R (Kd.int .u8) 5 wc w.heap.size (fun _ => True) (.slice Ao18 t366.length co18) t366) ∧ Aside0 (Kd.R k30 30 wc w.heap.size (fun _ => True) (.slice Ao23 t372.length co23) t372) ∧ Aside0 (Kd.R k32 32 wc w.heap.size (fun _ => True) (.slice Ao24 t375.length co24) t375) ∧ Aside0 (wc.heap[gb363]? = some (.cells #[.int .u64 a0_0, .int .u64 a0_1, .int .u64 a0_2, (.slice A0_3 l0_3.length c0_3), (.slice A0_4 l0_4.length c0_4)] 27 (0, 0))) ∧ Aside0 (wc.heap[gb379]? = some (.cells #[.int .u64 t369, .int .u64 t370, .int .u64 t371, (.slice Ao23 t372.length co23), (.slice Ao24 t375.length co24)] 27 (0, 0))) ∧ Aside0 (Below w.heap.size w wc))
    case first =>
      have H := HC12.out
      clear HC12
      by_cases c25 : (l0_3.length : Int) > 16
      · rw [if_pos c25] at H
        have c25b0 : decide (16 < (l0_3.length : Int)) = true := decide_eq_true c25
        have c25b1 : decide (16 < l0_3.length) = true := decide_eq_true (by omega)
        clear c25
        (first | rw [c25b0] | (simp only [i64_w, i32_w]; rw [c25b0]) | skip)
        have H' := Aside0.mk H
        clear H
        have hnb26 := NB363_379.out
        have hnc26 := NB379_363.out
        have hcz27_0 : w20.cell? ⟨gb363, 0, none⟩ = some (.int .u64 a0_0) := (bC_ BK363.out 0).trans rfl
        have hcz27_1 : w20.cell? ⟨gb363, 1, none⟩ = some (.int .u64 a0_1) := (bC_ BK363.out 1).trans rfl
        have hcz27_2 : w20.cell? ⟨gb363, 2, none⟩ = some (.int .u64 a0_2) := (bC_ BK363.out 2).trans rfl
        have hcz27_3 : w20.cell? ⟨gb363, 3, none⟩ = some (.slice A0_3 l0_3.length c0_3) := (bC_ BK363.out 3).trans rfl
        have hcz27_4 : w20.cell? ⟨gb363, 4, none⟩ = some (.slice A0_4 l0_4.length c0_4) := (bC_ BK363.out 4).trans rfl
        have hfz27_0 := bF_ BK363.out 0
        have hfz27_1 := bF_ BK363.out 1
        have hfz27_2 := bF_ BK363.out 2
        have hfz27_3 := bF_ BK363.out 3
        have hfz27_4 := bF_ BK363.out 4
        go_wp2
        go_meet
        case rel => exact ⟨_, (true), (by first | rfl | (simp; done) | (simp [*]; done)), H', ⟨by first | omega | exact Nat.le_refl _⟩, ⟨by (with_reducible repeat (first | apply Kd.R_alloc | apply Kd.R_drewN | apply Kd.R_drew)); exact Kd.R_mono (Kd.R_far (p := ⟨gb379, 4, none⟩) (Kd.R_far (p := ⟨gb379, 3, none⟩) (Kd.R_far (p := ⟨gb379, 2, none⟩) (Kd.R_far (p := ⟨gb379, 1, none⟩) (Kd.R_far (p := ⟨gb379, 0, none⟩) (Kd.R_types HO368.out BK379.out (by decide)) (fun _ hk => hk.2) (.int .u64 t369)) (fun _ hk => hk.2) (.int .u64 t370)) (fun _ hk => hk.2) (.int .u64 t371)) (fun _ hk => hk.2) (.slice Ao23 t372.length co23)) (fun _ hk => hk.2) (.slice Ao24 t375.length co24)) (fun _ hk => trivial)⟩, ⟨by (with_reducible repeat (first | apply Kd.R_alloc | apply Kd.R_drewN | apply Kd.R_drew)); exact Kd.R_mono (Kd.R_far (p := ⟨gb379, 4, none⟩) (Kd.R_far (p := ⟨gb379, 3, none⟩) (Kd.R_far (p := ⟨gb379, 2, none⟩) (Kd.R_far (p := ⟨gb379, 1, none⟩) (Kd.R_far (p := ⟨gb379, 0, none⟩) (Kd.R_types HO374.out BK379.out (by decide)) (fun _ hk => hk.2) (.int .u64 t369)) (fun _ hk => hk.2) (.int .u64 t370)) (fun _ hk => hk.2) (.int .u64 t371)) (fun _ hk => hk.2) (.slice Ao23 t372.length co23)) (fun _ hk => hk.2) (.slice Ao24 t375.length co24)) (fun _ hk => trivial)⟩, ⟨by (with_reducible repeat (first | apply Kd.R_alloc | apply Kd.R_drewN | apply Kd.R_drew)); exact Kd.R_mono (Kd.R_far (p := ⟨gb379, 4, none⟩) (Kd.R_far (p := ⟨gb379, 3, none⟩) (Kd.R_far (p := ⟨gb379, 2, none⟩) (Kd.R_far (p := ⟨gb379, 1, none⟩) (Kd.R_far (p := ⟨gb379, 0, none⟩) (Kd.R_types HO377.out BK379.out (by decide)) (fun _ hk => hk.2) (.int .u64 t369)) (fun _ hk => hk.2) (.int .u64 t370)) (fun _ hk => hk.2) (.int .u64 t371)) (fun _ hk => hk.2) (.slice Ao23 t372.length co23)) (fun _ hk => hk.2) (.slice Ao24 t375.length co24)) (fun _ hk => trivial)⟩, ⟨by (with_reducible repeat (first | refine bN_ ?_ _ | refine bD_ ?_ | refine bA_ ?_ _)); refine blk_far ?_ NB363_379.out _; (with_reducible repeat (first | refine bN_ ?_ _ | refine bD_ ?_ | refine bA_ ?_ _)); refine blk_far ?_ NB363_379.out _; (with_reducible repeat (first | refine bN_ ?_ _ | refine bD_ ?_ | refine bA_ ?_ _)); refine blk_far ?_ NB363_379.out _; (with_reducible repeat (first | refine bN_ ?_ _ | refine bD_ ?_ | refine bA_ ?_ _)); refine blk_far ?_ NB363_379.out _; (with_reducible repeat (first | refine bN_ ?_ _ | refine bD_ ?_ | refine bA_ ?_ _)); refine blk_far ?_ NB363_379.out _; (with_reducible repeat (first | refine bN_ ?_ _ | refine bD_ ?_ | refine bA_ ?_ _)); exact BK363.out⟩, ⟨by (with_reducible repeat (first | refine bN_ ?_ _ | refine bD_ ?_ | refine bA_ ?_ _)); refine blk_put (cs := #[.int .u64 t369, .int .u64 t370, .int .u64 t371, .slice Ao23 t372.length co23, .slice none 0 0]) ?_ 4 _ rfl; (with_reducible repeat (first | refine bN_ ?_ _ | refine bD_ ?_ | refine bA_ ?_ _)); refine blk_put (cs := #[.int .u64 t369, .int .u64 t370, .int .u64 t371, .slice none 0 0, .slice none 0 0]) ?_ 3 _ rfl; (with_reducible repeat (first | refine bN_ ?_ _ | refine bD_ ?_ | refine bA_ ?_ _)); refine blk_put (cs := #[.int .u64 t369, .int .u64 t370, .int .u64 0, .slice none 0 0, .slice none 0 0]) ?_ 2 _ rfl; (with_reducible repeat (first | refine bN_ ?_ _ | refine bD_ ?_ | refine bA_ ?_ _)); refine blk_put (cs := #[.int .u64 t369, .int .u64 0, .int .u64 0, .slice none 0 0, .slice none 0 0]) ?_ 1 _ rfl; (with_reducible repeat (first | refine bN_ ?_ _ | refine bD_ ?_ | refine bA_ ?_ _)); refine blk_put (cs := #[.int .u64 0, .int .u64 0, .int .u64 0, .slice none 0 0, .slice none 0 0]) ?_ 0 _ rfl; (with_reducible repeat (first | refine bN_ ?_ _ | refine bD_ ?_ | refine bA_ ?_ _)); exact BK379.out⟩, ⟨by repeat (first | (with_reducible first | exact HB.out | apply bX_ | apply bW_ | apply bY_ | refine bS_ ?_ GE363.out | refine bS_ ?_ GE379.out) | exact HB.out)⟩⟩
      · rw [if_neg c25] at H
        have c25b0 : decide (16 < (l0_3.length : Int)) = false := decide_eq_false c25
        have c25b1 : decide (16 < l0_3.length) = false := decide_eq_false (by omega)
        clear c25
        (first | rw [c25b0] | (simp only [i64_w, i32_w]; rw [c25b0]) | skip)
        have H' := Aside0.mk H
        clear H
        have hnb28 := NB363_379.out
        have hnc28 := NB379_363.out
        have hcz29_0 : w20.cell? ⟨gb363, 0, none⟩ = some (.int .u64 a0_0) := (bC_ BK363.out 0).trans rfl
        have hcz29_1 : w20.cell? ⟨gb363, 1, none⟩ = some (.int .u64 a0_1) := (bC_ BK363.out 1).trans rfl
        have hcz29_2 : w20.cell? ⟨gb363, 2, none⟩ = some (.int .u64 a0_2) := (bC_ BK363.out 2).trans rfl
        have hcz29_3 : w20.cell? ⟨gb363, 3, none⟩ = some (.slice A0_3 l0_3.length c0_3) := (bC_ BK363.out 3).trans rfl
        have hcz29_4 : w20.cell? ⟨gb363, 4, none⟩ = some (.slice A0_4 l0_4.length c0_4) := (bC_ BK363.out 4).trans rfl
        have hfz29_0 := bF_ BK363.out 0
        have hfz29_1 := bF_ BK363.out 1
        have hfz29_2 := bF_ BK363.out 2
        have hfz29_3 := bF_ BK363.out 3
        have hfz29_4 := bF_ BK363.out 4
        go_wp2
        go_meet
        case rel => exact ⟨_, (decide ((l0_4.length : Int) > 32)), (by first | rfl | (simp; done) | (simp [*]; done)), H', ⟨by first | omega | exact Nat.le_refl _⟩, ⟨by (with_reducible repeat (first | apply Kd.R_alloc | apply Kd.R_drewN | apply Kd.R_drew)); exact Kd.R_mono (Kd.R_far (p := ⟨gb379, 4, none⟩) (Kd.R_far (p := ⟨gb379, 3, none⟩) (Kd.R_far (p := ⟨gb379, 2, none⟩) (Kd.R_far (p := ⟨gb379, 1, none⟩) (Kd.R_far (p := ⟨gb379, 0, none⟩) (Kd.R_types HO368.out BK379.out (by decide)) (fun _ hk => hk.2) (.int .u64 t369)) (fun _ hk => hk.2) (.int .u64 t370)) (fun _ hk => hk.2) (.int .u64 t371)) (fun _ hk => hk.2) (.slice Ao23 t372.length co23)) (fun _ hk => hk.2) (.slice Ao24 t375.length co24)) (fun _ hk => trivial)⟩, ⟨by (with_reducible repeat (first | apply Kd.R_alloc | apply Kd.R_drewN | apply Kd.R_drew)); exact Kd.R_mono (Kd.R_far (p := ⟨gb379, 4, none⟩) (Kd.R_far (p := ⟨gb379, 3, none⟩) (Kd.R_far (p := ⟨gb379, 2, none⟩) (Kd.R_far (p := ⟨gb379, 1, none⟩) (Kd.R_far (p := ⟨gb379, 0, none⟩) (Kd.R_types HO374.out BK379.out (by decide)) (fun _ hk => hk.2) (.int .u64 t369)) (fun _ hk => hk.2) (.int .u64 t370)) (fun _ hk => hk.2) (.int .u64 t371)) (fun _ hk => hk.2) (.slice Ao23 t372.length co23)) (fun _ hk => hk.2) (.slice Ao24 t375.length co24)) (fun _ hk => trivial)⟩, ⟨by (with_reducible repeat (first | apply Kd.R_alloc | apply Kd.R_drewN | apply Kd.R_drew)); exact Kd.R_mono (Kd.R_far (p := ⟨gb379, 4, none⟩) (Kd.R_far (p := ⟨gb379, 3, none⟩) (Kd.R_far (p := ⟨gb379, 2, none⟩) (Kd.R_far (p := ⟨gb379, 1, none⟩) (Kd.R_far (p := ⟨gb379, 0, none⟩) (Kd.R_types HO377.out BK379.out (by decide)) (fun _ hk => hk.2) (.int .u64 t369)) (fun _ hk => hk.2) (.int .u64 t370)) (fun _ hk => hk.2) (.int .u64 t371)) (fun _ hk => hk.2) (.slice Ao23 t372.length co23)) (fun _ hk => hk.2) (.slice Ao24 t375.length co24)) (fun _ hk => trivial)⟩, ⟨by (with_reducible repeat (first | refine bN_ ?_ _ | refine bD_ ?_ | refine bA_ ?_ _)); refine blk_far ?_ NB363_379.out _; (with_reducible repeat (first | refine bN_ ?_ _ | refine bD_ ?_ | refine bA_ ?_ _)); refine blk_far ?_ NB363_379.out _; (with_reducible repeat (first | refine bN_ ?_ _ | refine bD_ ?_ | refine bA_ ?_ _)); refine blk_far ?_ NB363_379.out _; (with_reducible repeat (first | refine bN_ ?_ _ | refine bD_ ?_ | refine bA_ ?_ _)); refine blk_far ?_ NB363_379.out _; (with_reducible repeat (first | refine bN_ ?_ _ | refine bD_ ?_ | refine bA_ ?_ _)); refine blk_far ?_ NB363_379.out _; (with_reducible repeat (first | refine bN_ ?_ _ | refine bD_ ?_ | refine bA_ ?_ _)); exact BK363.out⟩, ⟨by (with_reducible repeat (first | refine bN_ ?_ _ | refine bD_ ?_ | refine bA_ ?_ _)); refine blk_put (cs := #[.int .u64 t369, .int .u64 t370, .int .u64 t371, .slice Ao23 t372.length co23, .slice none 0 0]) ?_ 4 _ rfl; (with_reducible repeat (first | refine bN_ ?_ _ | refine bD_ ?_ | refine bA_ ?_ _)); refine blk_put (cs := #[.int .u64 t369, .int .u64 t370, .int .u64 t371, .slice none 0 0, .slice none 0 0]) ?_ 3 _ rfl; (with_reducible repeat (first | refine bN_ ?_ _ | refine bD_ ?_ | refine bA_ ?_ _)); refine blk_put (cs := #[.int .u64 t369, .int .u64 t370, .int .u64 0, .slice none 0 0, .slice none 0 0]) ?_ 2 _ rfl; (with_reducible repeat (first | refine bN_ ?_ _ | refine bD_ ?_ | refine bA_ ?_ _)); refine blk_put (cs := #[.int .u64 t369, .int .u64 0, .int .u64 0, .slice none 0 0, .slice none 0 0]) ?_ 1 _ rfl; (with_reducible repeat (first | refine bN_ ?_ _ | refine bD_ ?_ | refine bA_ ?_ _)); refine blk_put (cs := #[.int .u64 0, .int .u64 0, .int .u64 0, .slice none 0 0, .slice none 0 0]) ?_ 0 _ rfl; (with_reducible repeat (first | refine bN_ ?_ _ | refine bD_ ?_ | refine bA_ ?_ _)); exact BK379.out⟩, ⟨by repeat (first | (with_reducible first | exact HB.out | apply bX_ | apply bW_ | apply bY_ | refine bS_ ?_ GE363.out | refine bS_ ?_ GE379.out) | exact HB.out)⟩⟩
    case rest =>
      clear HC12
      (try clear c1); (try clear c2); (try clear p2); (try clear c4); (try clear c8); (try clear c9); (try clear c10); (try clear c21); (try clear c24); (try clear c25); (try clear c25b0); (try clear c25b1); (try clear c26); (try clear c28); (try clear hcz14_0); (try clear hcz14_1); (try clear hcz14_2); (try clear hcz14_3); (try clear hcz14_4); (try clear hcz16_0); (try clear hcz16_1); (try clear hcz16_2); (try clear hcz16_3); (try clear hcz16_4); (try clear hcz22_0); (try clear hcz22_1); (try clear hcz22_2); (try clear hcz22_3); (try clear hcz22_4); (try clear hcz27_0); (try clear hcz27_1); (try clear hcz27_2); (try clear hcz27_3); (try clear hcz27_4); (try clear hcz29_0); (try clear hcz29_1); (try clear hcz29_2); (try clear hcz29_3); (try clear hcz29_4); (try clear hcz7_0); (try clear hcz7_1); (try clear hcz7_2); (try clear hcz7_3); (try clear hcz7_4); (try clear hfz14_0); (try clear hfz14_1); (try clear hfz14_2); (try clear hfz14_3); (try clear hfz14_4); (try clear hfz16_0); (try clear hfz16_1); (try clear hfz16_2); (try clear hfz16_3); (try clear hfz16_4); (try clear hfz22_0); (try clear hfz22_1); (try clear hfz22_2); (try clear hfz22_3); (try clear hfz22_4); (try clear hfz27_0); (try clear hfz27_1); (try clear hfz27_2); (try clear hfz27_3); (try clear hfz27_4); (try clear hfz29_0); (try clear hfz29_1); (try clear hfz29_2); (try clear hfz29_3); (try clear hfz29_4); (try clear hfz7_0); (try clear hfz7_1); (try clear hfz7_2); (try clear hfz7_3); (try clear hfz7_4)
      obtain ⟨kq, x35_11, rfl, HA, HJ11, HO_5, HO_380003, HO_380004, BK363, BK379, HB⟩ := hcut
      cases kq with
      | zero => exact absurd HA.out (by simp [sundiallaw03_HeaderBack.j0])
      | succ kj11 =>
        have H := HA.out
        clear HA
        simp only [sundiallaw03_HeaderBack.j0] at H
        by_cases c30 : x35_11 = true
        · subst c30
          have H1 : (if t378 = 32 then ((sundialref03_Same.f kj11 t369 t370 t371 t372 t375 0 0 0 ([] : List (S30)) ([] : List (S32))).bind fun t380 => (if t380 = true then ((sundiallaw03_wakes.f).bind fun t381 => (some t381)) else (some false))) else (some false)) = some true := by rw [if_pos rfl] at H; exact H
          clear H
          have H := H1
          clear H1
          by_cases c31 : t378 = 32
          · rw [if_pos c31] at H
            have c31b0 : (t378 == 32) = true := beq_iff_eq.mpr c31
            have c31b1 : (t378 != 32) = false := bne_eq_false_iff_eq.mpr c31
            clear c31
            replace H := Option.bind_eq_some_iff.mp H
            obtain ⟨t380, A320, H⟩ := H
            replace H : (if t380 = true then ((sundiallaw03_wakes.f).bind fun t381 => (some t381)) else (some false)) = some true := H
            have A32 := Aside0.mk A320
            clear A320
            by_cases c33 : t380 = true
            · subst c33
              have H1 : ((sundiallaw03_wakes.f).bind fun t381 => (some t381)) = some true := by rw [if_pos rfl] at H; exact H
              clear H
              have H := H1
              clear H1
              replace H := Option.bind_eq_some_iff.mp H
              obtain ⟨t381, A340, H⟩ := H
              replace H : (some t381) = some true := H
              have A34 := Aside0.mk A340
              clear A340
              obtain rfl := Option.some.inj H
              have hnb35 := NB379_363.out
              have hnc35 := NB363_379.out
              have hcz36_0 : wc.cell? ⟨gb379, 0, none⟩ = some (.int .u64 t369) := (bC_ BK379.out 0).trans rfl
              have hcz36_1 : wc.cell? ⟨gb379, 1, none⟩ = some (.int .u64 t370) := (bC_ BK379.out 1).trans rfl
              have hcz36_2 : wc.cell? ⟨gb379, 2, none⟩ = some (.int .u64 t371) := (bC_ BK379.out 2).trans rfl
              have hcz36_3 : wc.cell? ⟨gb379, 3, none⟩ = some (.slice Ao23 t372.length co23) := (bC_ BK379.out 3).trans rfl
              have hcz36_4 : wc.cell? ⟨gb379, 4, none⟩ = some (.slice Ao24 t375.length co24) := (bC_ BK379.out 4).trans rfl
              have hfz36_0 := bF_ BK379.out 0
              have hfz36_1 := bF_ BK379.out 1
              have hfz36_2 := bF_ BK379.out 2
              have hfz36_3 := bF_ BK379.out 3
              have hfz36_4 := bF_ BK379.out 4
              go_wp2_with (first | (go_at_call 12; (refine (sundialref03_Same.calls kj11 t369 t370 t371 _ _ t372 _ _ t375 0 0 0 _ _ ([] : List (S30)) _ _ ([] : List (S32)) true _ ?side1 ?side2 ?side3 ?side4 ?side5 ?side6 ?side7 ?side8 A32.out).mono ?_); (case side1 => repeat (first | exact (Kd.R_reads' HO_380003.out).2.2 | (with_reducible refine Kd.C_alloc ?_ _) | (with_reducible refine Kd.C_drewN ?_ _) | (with_reducible refine Kd.C_drew ?_))); (case side2 => exact (Kd.R_reads' HO_380003.out).2.1); (case side3 => repeat (first | exact (Kd.R_reads' HO_380004.out).2.2 | (with_reducible refine Kd.C_alloc ?_ _) | (with_reducible refine Kd.C_drewN ?_ _) | (with_reducible refine Kd.C_drew ?_))); (case side4 => exact (Kd.R_reads' HO_380004.out).2.1); (case side5 => exact Kd.C_nil _ _); (case side6 => exact Nat.le_refl _); (case side7 => exact Kd.C_nil _ _); (case side8 => exact Nat.le_refl _); rintro e w37 ⟨rfl, hb⟩; have n0_ := Aside0.mk (Kd.R_below (by (with_reducible repeat (first | apply Kd.R_alloc | apply Kd.R_drewN | apply Kd.R_drew)); exact HO_5.out) hb); have n1_ := Aside0.mk (Kd.R_below (by (with_reducible repeat (first | apply Kd.R_alloc | apply Kd.R_drewN | apply Kd.R_drew)); exact HO_380003.out) hb); have n2_ := Aside0.mk (Kd.R_below (by (with_reducible repeat (first | apply Kd.R_alloc | apply Kd.R_drewN | apply Kd.R_drew)); exact HO_380004.out) hb); have n3_ := Aside0.mk (blk_below (g := gb363) (o := .cells #[.int .u64 a0_0, .int .u64 a0_1, .int .u64 a0_2, .slice A0_3 l0_3.length c0_3, .slice A0_4 l0_4.length c0_4] 27 (0, 0)) (by (with_reducible repeat (first | refine bN_ ?_ _ | refine bD_ ?_ | refine bA_ ?_ _)); exact BK363.out) hb); have n4_ := Aside0.mk (blk_below (g := gb379) (o := .cells #[.int .u64 t369, .int .u64 t370, .int .u64 t371, .slice Ao23 t372.length co23, .slice Ao24 t375.length co24] 27 (0, 0)) (by (with_reducible repeat (first | refine bN_ ?_ _ | refine bD_ ?_ | refine bA_ ?_ _)); exact BK379.out) hb); have n5_ := Aside0.mk (below_step (by repeat (first | (with_reducible first | exact HB.out | apply bX_ | apply bW_ | apply bY_ | refine bS_ ?_ GE363.out | refine bS_ ?_ GE379.out) | exact HB.out)) hb); clear HO_5; clear HO_380003; clear HO_380004; clear BK363; clear BK379; clear HB; have HO_5 := n0_; have HO_380003 := n1_; have HO_380004 := n2_; have BK363 := n3_; have BK379 := n4_; have HB := n5_; clear n0_ n1_ n2_ n3_ n4_ n5_; (try clear hb); (try clear hb2); (try clear hk); (try clear hi)) | (go_at_call 9; (with_reducible refine (sundiallaw03_wakes.calls true _ (Tab.below HTAB.out (by repeat (first | (with_reducible first | exact HB.out | apply bX_ | apply bW_ | apply bY_ | refine bS_ ?_ GE363.out | refine bS_ ?_ GE379.out) | exact HB.out))) A34.out).mono ?_); rintro e w38 ⟨rfl, hb⟩; have n0_ := Aside0.mk (Kd.R_below (by (with_reducible repeat (first | apply Kd.R_alloc | apply Kd.R_drewN | apply Kd.R_drew)); exact HO_5.out) hb); have n1_ := Aside0.mk (Kd.R_below (by (with_reducible repeat (first | apply Kd.R_alloc | apply Kd.R_drewN | apply Kd.R_drew)); exact HO_380003.out) hb); have n2_ := Aside0.mk (Kd.R_below (by (with_reducible repeat (first | apply Kd.R_alloc | apply Kd.R_drewN | apply Kd.R_drew)); exact HO_380004.out) hb); have n3_ := Aside0.mk (blk_below (g := gb363) (o := .cells #[.int .u64 a0_0, .int .u64 a0_1, .int .u64 a0_2, .slice A0_3 l0_3.length c0_3, .slice A0_4 l0_4.length c0_4] 27 (0, 0)) (by (with_reducible repeat (first | refine bN_ ?_ _ | refine bD_ ?_ | refine bA_ ?_ _)); exact BK363.out) hb); have n4_ := Aside0.mk (blk_below (g := gb379) (o := .cells #[.int .u64 t369, .int .u64 t370, .int .u64 t371, .slice Ao23 t372.length co23, .slice Ao24 t375.length co24] 27 (0, 0)) (by (with_reducible repeat (first | refine bN_ ?_ _ | refine bD_ ?_ | refine bA_ ?_ _)); exact BK379.out) hb); have n5_ := Aside0.mk (below_step (by repeat (first | (with_reducible first | exact HB.out | apply bX_ | apply bW_ | apply bY_ | refine bS_ ?_ GE363.out | refine bS_ ?_ GE379.out) | exact HB.out)) hb); clear HO_5; clear HO_380003; clear HO_380004; clear BK363; clear BK379; clear HB; have HO_5 := n0_; have HO_380003 := n1_; have HO_380004 := n2_; have BK363 := n3_; have BK379 := n4_; have HB := n5_; clear n0_ n1_ n2_ n3_ n4_ n5_; (try clear hb); (try clear hb2); (try clear hk); (try clear hi)))
              go_ret
              exact ⟨by first | rfl | (simp [errW_none, errW_some] <;> rfl) | (simp [*, errW_none, errW_some] <;> rfl), by repeat (first | (with_reducible first | exact HB.out | apply bX_ | apply bW_ | apply bY_ | refine bS_ ?_ GE363.out | refine bS_ ?_ GE379.out) | exact HB.out)⟩
            · rw [if_neg c33] at H
              exact absurd H sundiallaw03_HeaderBack.some_no
          · rw [if_neg c31] at H
            exact absurd H sundiallaw03_HeaderBack.some_no
        · replace c30 := Bool.eq_false_iff.mpr c30
          subst c30
          have H1 : (sundiallaw03_HeaderBack.l0 kj11 t366 t378 0 a0_0 64 (IntKind.u64.wrap (64 + (IntKind.u64.wrap (56 * (IntKind.u64.wrap ((l0_3.length : Int))))))) l0_3 l0_4 t369 t370 t371 t372 t375) = some true := by rw [if_neg (show ¬ (false = true) by decide)] at H; exact H
          clear H
          have H := H1
          clear H1
          have H' := Aside0.mk H
          clear H
          have hnb42 := NB363_379.out
          have hnc42 := NB379_363.out
          have hcz43_0 : wc.cell? ⟨gb363, 0, none⟩ = some (.int .u64 a0_0) := (bC_ BK363.out 0).trans rfl
          have hcz43_1 : wc.cell? ⟨gb363, 1, none⟩ = some (.int .u64 a0_1) := (bC_ BK363.out 1).trans rfl
          have hcz43_2 : wc.cell? ⟨gb363, 2, none⟩ = some (.int .u64 a0_2) := (bC_ BK363.out 2).trans rfl
          have hcz43_3 : wc.cell? ⟨gb363, 3, none⟩ = some (.slice A0_3 l0_3.length c0_3) := (bC_ BK363.out 3).trans rfl
          have hcz43_4 : wc.cell? ⟨gb363, 4, none⟩ = some (.slice A0_4 l0_4.length c0_4) := (bC_ BK363.out 4).trans rfl
          have hfz43_0 := bF_ BK363.out 0
          have hfz43_1 := bF_ BK363.out 1
          have hfz43_2 := bF_ BK363.out 2
          have hfz43_3 := bF_ BK363.out 3
          have hfz43_4 := bF_ BK363.out 4
          go_wp2
          go_loopg [8] kj11 (fun kq v8 w' => ∃ (x8_2 : Int), v8 = .int .i64 x8_2 ∧ Aside0 (sundiallaw03_HeaderBack.l0 kq t366 t378 x8_2 a0_0 64 (IntKind.u64.wrap (64 + (IntKind.u64.wrap (56 * (IntKind.u64.wrap ((l0_3.length : Int))))))) l0_3 l0_4 t369 t370 t371 t372 t375 = some true) ∧ Aside0 (kq ≤ kj11) ∧ Aside0 (Kd.R (Kd.int .u8) 5 w' w.heap.size (fun _ => True) (.slice Ao18 t366.length co18) t366) ∧ Aside0 (Kd.R k30 30 w' w.heap.size (fun _ => True) (.slice Ao23 t372.length co23) t372) ∧ Aside0 (Kd.R k32 32 w' w.heap.size (fun _ => True) (.slice Ao24 t375.length co24) t375) ∧ Aside0 (w'.heap[gb363]? = some (.cells #[.int .u64 a0_0, .int .u64 64, .int .u64 (IntKind.u64.wrap (64 + (IntKind.u64.wrap (56 * (IntKind.u64.wrap ((l0_3.length : Int))))))), (.slice A0_3 l0_3.length c0_3), (.slice A0_4 l0_4.length c0_4)] 27 (0, 0))) ∧ Aside0 (w'.heap[gb379]? = some (.cells #[.int .u64 t369, .int .u64 t370, .int .u64 t371, (.slice Ao23 t372.length co23), (.slice Ao24 t375.length co24)] 27 (0, 0))) ∧ Aside0 (Below w.heap.size w w'))
          case atStart => exact ⟨(0), (by first | rfl | (simp; done) | (simp [*]; done)), H', ⟨Nat.le_refl _⟩, ⟨by (with_reducible repeat (first | apply Kd.R_alloc | apply Kd.R_drewN | apply Kd.R_drew)); exact Kd.R_mono (Kd.R_far (p := ⟨gb363, 2, none⟩) (Kd.R_far (p := ⟨gb363, 1, none⟩) (Kd.R_types HO_5.out BK363.out (by decide)) (fun _ hk => hk.2) (.int .u64 64)) (fun _ hk => hk.2) (.int .u64 (IntKind.u64.wrap (64 + (IntKind.u64.wrap (56 * (IntKind.u64.wrap ((l0_3.length : Int))))))))) (fun _ hk => trivial)⟩, ⟨by (with_reducible repeat (first | apply Kd.R_alloc | apply Kd.R_drewN | apply Kd.R_drew)); exact Kd.R_mono (Kd.R_far (p := ⟨gb363, 2, none⟩) (Kd.R_far (p := ⟨gb363, 1, none⟩) (Kd.R_types HO_380003.out BK363.out (by decide)) (fun _ hk => hk.2) (.int .u64 64)) (fun _ hk => hk.2) (.int .u64 (IntKind.u64.wrap (64 + (IntKind.u64.wrap (56 * (IntKind.u64.wrap ((l0_3.length : Int))))))))) (fun _ hk => trivial)⟩, ⟨by (with_reducible repeat (first | apply Kd.R_alloc | apply Kd.R_drewN | apply Kd.R_drew)); exact Kd.R_mono (Kd.R_far (p := ⟨gb363, 2, none⟩) (Kd.R_far (p := ⟨gb363, 1, none⟩) (Kd.R_types HO_380004.out BK363.out (by decide)) (fun _ hk => hk.2) (.int .u64 64)) (fun _ hk => hk.2) (.int .u64 (IntKind.u64.wrap (64 + (IntKind.u64.wrap (56 * (IntKind.u64.wrap ((l0_3.length : Int))))))))) (fun _ hk => trivial)⟩, ⟨by (with_reducible repeat (first | refine bN_ ?_ _ | refine bD_ ?_ | refine bA_ ?_ _)); refine blk_put (cs := #[.int .u64 a0_0, .int .u64 64, .int .u64 a0_2, .slice A0_3 l0_3.length c0_3, .slice A0_4 l0_4.length c0_4]) ?_ 2 _ rfl; (with_reducible repeat (first | refine bN_ ?_ _ | refine bD_ ?_ | refine bA_ ?_ _)); refine blk_put (cs := #[.int .u64 a0_0, .int .u64 a0_1, .int .u64 a0_2, .slice A0_3 l0_3.length c0_3, .slice A0_4 l0_4.length c0_4]) ?_ 1 _ rfl; (with_reducible repeat (first | refine bN_ ?_ _ | refine bD_ ?_ | refine bA_ ?_ _)); exact BK363.out⟩, ⟨by (with_reducible repeat (first | refine bN_ ?_ _ | refine bD_ ?_ | refine bA_ ?_ _)); refine blk_far ?_ NB379_363.out _; (with_reducible repeat (first | refine bN_ ?_ _ | refine bD_ ?_ | refine bA_ ?_ _)); refine blk_far ?_ NB379_363.out _; (with_reducible repeat (first | refine bN_ ?_ _ | refine bD_ ?_ | refine bA_ ?_ _)); exact BK379.out⟩, ⟨by repeat (first | (with_reducible first | exact HB.out | apply bX_ | apply bW_ | apply bY_ | refine bS_ ?_ GE363.out | refine bS_ ?_ GE379.out) | exact HB.out)⟩⟩
          case round =>
            clear H'
            (try clear c1); (try clear c2); (try clear p2); (try clear c3); (try clear c4); (try clear c8); (try clear c9); (try clear c10); (try clear c21); (try clear c24); (try clear c25); (try clear c25b0); (try clear c25b1); (try clear c26); (try clear c28); (try clear c30); (try clear c31); (try clear c31b0); (try clear c31b1); (try clear c33); (try clear c35); (try clear c39); (try clear c42); (try clear hcz14_0); (try clear hcz14_1); (try clear hcz14_2); (try clear hcz14_3); (try clear hcz14_4); (try clear hcz16_0); (try clear hcz16_1); (try clear hcz16_2); (try clear hcz16_3); (try clear hcz16_4); (try clear hcz22_0); (try clear hcz22_1); (try clear hcz22_2); (try clear hcz22_3); (try clear hcz22_4); (try clear hcz27_0); (try clear hcz27_1); (try clear hcz27_2); (try clear hcz27_3); (try clear hcz27_4); (try clear hcz29_0); (try clear hcz29_1); (try clear hcz29_2); (try clear hcz29_3); (try clear hcz29_4); (try clear hcz36_0); (try clear hcz36_1); (try clear hcz36_2); (try clear hcz36_3); (try clear hcz36_4); (try clear hcz40_0); (try clear hcz40_1); (try clear hcz40_2); (try clear hcz40_3); (try clear hcz40_4); (try clear hcz43_0); (try clear hcz43_1); (try clear hcz43_2); (try clear hcz43_3); (try clear hcz43_4); (try clear hcz7_0); (try clear hcz7_1); (try clear hcz7_2); (try clear hcz7_3); (try clear hcz7_4); (try clear hfz14_0); (try clear hfz14_1); (try clear hfz14_2); (try clear hfz14_3); (try clear hfz14_4); (try clear hfz16_0); (try clear hfz16_1); (try clear hfz16_2); (try clear hfz16_3); (try clear hfz16_4); (try clear hfz22_0); (try clear hfz22_1); (try clear hfz22_2); (try clear hfz22_3); (try clear hfz22_4); (try clear hfz27_0); (try clear hfz27_1); (try clear hfz27_2); (try clear hfz27_3); (try clear hfz27_4); (try clear hfz29_0); (try clear hfz29_1); (try clear hfz29_2); (try clear hfz29_3); (try clear hfz29_4); (try clear hfz36_0); (try clear hfz36_1); (try clear hfz36_2); (try clear hfz36_3); (try clear hfz36_4); (try clear hfz40_0); (try clear hfz40_1)
            (try clear hfz40_2); (try clear hfz40_3); (try clear hfz40_4); (try clear hfz43_0); (try clear hfz43_1); (try clear hfz43_2); (try clear hfz43_3); (try clear hfz43_4); (try clear hfz7_0); (try clear hfz7_1); (try clear hfz7_2); (try clear hfz7_3); (try clear hfz7_4); (try clear p2)
            obtain ⟨x8_2, rfl, HA, HK2, HO_5, HO_380003, HO_380004, BK363, BK379, HB⟩ := hrel
            cases gk with
            | zero => exact absurd HA.out (by simp [sundiallaw03_HeaderBack.l0])
            | succ k2 =>
              have H := HA.out
              clear HA
              simp only [sundiallaw03_HeaderBack.l0] at H
              by_cases c44 : x8_2 < (l0_3.length : Int)
              · rw [if_pos c44] at H
                have c44b0 : decide (x8_2 < (l0_3.length : Int)) = true := decide_eq_true c44
                clear c44
                by_cases c45 : 0 ≤ x8_2
                · rw [if_pos c45] at H
                  have c45b0 : decide (0 ≤ x8_2) = true := decide_eq_true c45
                  clear c45
                  replace H := Option.bind_eq_some_iff.mp H
                  obtain ⟨t383, A460, H⟩ := H
                  replace H : ((header_TakeSegment.f t383).bind fun bt386 => (if bt386.2.2.2.2.2.2.2 = 0 then (if (!(bt386.1 == ((rd_T30 l0_3 x8_2).f0)) || (!(bt386.2.1 == ((rd_T30 l0_3 x8_2).f1)) || (!(bt386.2.2.1 == ((rd_T30 l0_3 x8_2).f2)) || (!(bt386.2.2.2.1 == ((rd_T30 l0_3 x8_2).f3)) || (!(bt386.2.2.2.2.1 == ((rd_T30 l0_3 x8_2).f4)) || (!(bt386.2.2.2.2.2.1 == ((rd_T30 l0_3 x8_2).f5)) || (!(bt386.2.2.2.2.2.2.1 == ((rd_T30 l0_3 x8_2).f6))))))))) = true then (some false) else (sundiallaw03_HeaderBack.l0 k2 t366 t378 (wrap64 (x8_2 + 1)) a0_0 64 (IntKind.u64.wrap (64 + (IntKind.u64.wrap (56 * (IntKind.u64.wrap ((l0_3.length : Int))))))) l0_3 l0_4 t369 t370 t371 t372 t375)) else (some false))) = some true := H
                  have A46 := Aside0.mk A460
                  clear A460
                  replace H := Option.bind_eq_some_iff.mp H
                  obtain ⟨⟨t386, t387, t388, t389, t390, t391, t392, t393⟩, A470, H⟩ := H
                  replace H : (if t393 = 0 then (if (!(t386 == ((rd_T30 l0_3 x8_2).f0)) || (!(t387 == ((rd_T30 l0_3 x8_2).f1)) || (!(t388 == ((rd_T30 l0_3 x8_2).f2)) || (!(t389 == ((rd_T30 l0_3 x8_2).f3)) || (!(t390 == ((rd_T30 l0_3 x8_2).f4)) || (!(t391 == ((rd_T30 l0_3 x8_2).f5)) || (!(t392 == ((rd_T30 l0_3 x8_2).f6))))))))) = true then (some false) else (sundiallaw03_HeaderBack.l0 k2 t366 t378 (wrap64 (x8_2 + 1)) a0_0 64 (IntKind.u64.wrap (64 + (IntKind.u64.wrap (56 * (IntKind.u64.wrap ((l0_3.length : Int))))))) l0_3 l0_4 t369 t370 t371 t372 t375)) else (some false)) = some true := H
                  have A47 := Aside0.mk A470
                  clear A470
                  by_cases c48 : t393 = 0
                  · rw [if_pos c48] at H
                    have c48b0 : (t393 == 0) = true := beq_iff_eq.mpr c48
                    have c48b1 : (t393 != 0) = false := bne_eq_false_iff_eq.mpr c48
                    clear c48
                    by_cases c49 : (!(t386 == ((rd_T30 l0_3 x8_2).f0)) || (!(t387 == ((rd_T30 l0_3 x8_2).f1)) || (!(t388 == ((rd_T30 l0_3 x8_2).f2)) || (!(t389 == ((rd_T30 l0_3 x8_2).f3)) || (!(t390 == ((rd_T30 l0_3 x8_2).f4)) || (!(t391 == ((rd_T30 l0_3 x8_2).f5)) || (!(t392 == ((rd_T30 l0_3 x8_2).f6))))))))) = true
                    · rw [if_pos c49] at H
                      exact absurd H sundiallaw03_HeaderBack.some_no
                    · rw [if_neg c49] at H
                      have c49b0 : (!(t386 == ((rd_T30 l0_3 x8_2).f0)) || (!(t387 == ((rd_T30 l0_3 x8_2).f1)) || (!(t388 == ((rd_T30 l0_3 x8_2).f2)) || (!(t389 == ((rd_T30 l0_3 x8_2).f3)) || (!(t390 == ((rd_T30 l0_3 x8_2).f4)) || (!(t391 == ((rd_T30 l0_3 x8_2).f5)) || (!(t392 == ((rd_T30 l0_3 x8_2).f6))))))))) = false := by simpa using c49
                      clear c49
                      have H' := Aside0.mk H
                      clear H
                      have hnb61 := NB363_379.out
                      have hnc61 := NB379_363.out
                      have hcz62_0 : wr.cell? ⟨gb363, 0, none⟩ = some (.int .u64 a0_0) := (bC_ BK363.out 0).trans rfl
                      have hcz62_1 : wr.cell? ⟨gb363, 1, none⟩ = some (.int .u64 64) := (bC_ BK363.out 1).trans rfl
                      have hcz62_2 : wr.cell? ⟨gb363, 2, none⟩ = some (.int .u64 (IntKind.u64.wrap (64 + (IntKind.u64.wrap (56 * (IntKind.u64.wrap ((l0_3.length : Int)))))))) := (bC_ BK363.out 2).trans rfl
                      have hcz62_3 : wr.cell? ⟨gb363, 3, none⟩ = some (.slice A0_3 l0_3.length c0_3) := (bC_ BK363.out 3).trans rfl
                      have hcz62_4 : wr.cell? ⟨gb363, 4, none⟩ = some (.slice A0_4 l0_4.length c0_4) := (bC_ BK363.out 4).trans rfl
                      have hfz62_0 := bF_ BK363.out 0
                      have hfz62_1 := bF_ BK363.out 1
                      have hfz62_2 := bF_ BK363.out 2
                      have hfz62_3 := bF_ BK363.out 3
                      have hfz62_4 := bF_ BK363.out 4
                      have p382 : 0 ≤ (x8_2 : Int) := of_decide_eq_true (by first | (with_reducible assumption) | assumption)
                      have q382 : x8_2 < (l0_3.length : Int) := of_decide_eq_true (by first | (with_reducible assumption) | assumption)
                      obtain ⟨ad382, e382, hx382_0, hx382_1, hx382_2, hx382_3, hx382_4, hx382_5, hx382_6⟩ := at_T30 HR0_3.out x8_2 p382 q382
                      cases e382
                      replace hx382_0 := (HB.out.cell (World.block_lt_of_cell? w _ hx382_0)).trans hx382_0
                      replace hx382_1 := (HB.out.cell (World.block_lt_of_cell? w _ hx382_1)).trans hx382_1
                      replace hx382_2 := (HB.out.cell (World.block_lt_of_cell? w _ hx382_2)).trans hx382_2
                      replace hx382_3 := (HB.out.cell (World.block_lt_of_cell? w _ hx382_3)).trans hx382_3
                      replace hx382_4 := (HB.out.cell (World.block_lt_of_cell? w _ hx382_4)).trans hx382_4
                      replace hx382_5 := (HB.out.cell (World.block_lt_of_cell? w _ hx382_5)).trans hx382_5
                      replace hx382_6 := (HB.out.cell (World.block_lt_of_cell? w _ hx382_6)).trans hx382_6
                      replace p382 := eq_true p382
                      replace q382 := eq_true q382
                      try go_wp2_with (first | ((with_reducible refine gate_callee (f := 16) rfl ?_); refine goesL_ (some 67) rfl rfl Tryd.func16 (by kernel_rfl) rfl #[.agg #[.int .u32 ((rd_T30 l0_3 x8_2).f0), .int .u32 ((rd_T30 l0_3 x8_2).f1), .int .u64 ((rd_T30 l0_3 x8_2).f2), .int .u64 ((rd_T30 l0_3 x8_2).f3), .int .u64 ((rd_T30 l0_3 x8_2).f4), .int .u64 ((rd_T30 l0_3 x8_2).f5), .int .u64 ((rd_T30 l0_3 x8_2).f6)]] rfl (by (try simp only [List.map_toArray, List.map_cons, List.map_nil]); first | done | rfl | (simp only [List.length_drop, List.length_take]; rfl)) ?_; (with_reducible refine (header_Segment.calls ((rd_T30 l0_3 x8_2).f0) ((rd_T30 l0_3 x8_2).f1) ((rd_T30 l0_3 x8_2).f2) ((rd_T30 l0_3 x8_2).f3) ((rd_T30 l0_3 x8_2).f4) ((rd_T30 l0_3 x8_2).f5) ((rd_T30 l0_3 x8_2).f6) t383 _ (Tab.below HTAB.out (by repeat (first | (with_reducible first | exact HB.out | apply bX_ | apply bW_ | apply bY_ | refine bS_ ?_ GE363.out | refine bS_ ?_ GE379.out) | exact HB.out))) A46.out).mono ?_); rintro e w63 ⟨v384, rfl, ho0, hb⟩; refine ⟨_, rfl, ?_⟩; have n0_ := Aside0.mk (Kd.R_elder' (by (with_reducible repeat (first | apply Kd.R_alloc | apply Kd.R_drewN | apply Kd.R_drew)); exact HO_5.out) (by first | exact Kd.R_base ho0 | exact Kd.R_base (Kd.S_R ho0) | exact Kd.R_base ho0) hb); have n1_ := Aside0.mk (Kd.R_below (by (with_reducible repeat (first | apply Kd.R_alloc | apply Kd.R_drewN | apply Kd.R_drew)); exact HO_380003.out) hb); have n2_ := Aside0.mk (Kd.R_below (by (with_reducible repeat (first | apply Kd.R_alloc | apply Kd.R_drewN | apply Kd.R_drew)); exact HO_380004.out) hb); have n3_ := Aside0.mk (Kd.R_lower (Kd.R_new' ho0 (Kd.R_lt (by (with_reducible repeat (first | apply Kd.R_alloc | apply Kd.R_drewN | apply Kd.R_drew)); exact HO_5.out))) (below_size (by repeat (first | (with_reducible first | exact HB.out | apply bX_ | apply bW_ | apply bY_ | refine bS_ ?_ GE363.out | refine bS_ ?_ GE379.out) | exact HB.out)))); have n4_ := Aside0.mk (blk_below (g := gb363) (o := .cells #[.int .u64 a0_0, .int .u64 64, .int .u64 (IntKind.u64.wrap (64 + (IntKind.u64.wrap (56 * (IntKind.u64.wrap ((l0_3.length : Int))))))), .slice (some ad382) l0_3.length c0_3, .slice A0_4 l0_4.length c0_4] 27 (0, 0)) (by (with_reducible repeat (first | refine bN_ ?_ _ | refine bD_ ?_ | refine bA_ ?_ _)); exact BK363.out) hb); have n5_ := Aside0.mk (blk_below (g := gb379) (o := .cells #[.int .u64 t369, .int .u64 t370, .int .u64 t371, .slice Ao23 t372.length co23, .slice Ao24 t375.length co24] 27 (0, 0)) (by (with_reducible repeat (first | refine bN_ ?_ _ | refine bD_ ?_ | refine bA_ ?_ _)); exact BK379.out) hb); have n6_ := Aside0.mk (below_step (by repeat (first | (with_reducible first | exact HB.out | apply bX_ | apply bW_ | apply bY_ | refine bS_ ?_ GE363.out | refine bS_ ?_ GE379.out) | exact HB.out)) hb); clear HO_5; clear HO_380003; clear HO_380004; clear BK363; clear BK379; clear HB; have HO_5 := n0_; have HO_380003 := n1_; have HO_380004 := n2_; have HO385 := n3_; have BK363 := n4_; have BK379 := n5_; have HB := n6_; clear n0_ n1_ n2_ n3_ n4_ n5_ n6_; (try clear hb); (try clear hb2); (try clear hk); (try clear hi); (try clear ho0); obtain ⟨Ao64, co64, eo64⟩ := Kd.R_slice HO385.out; subst eo64) | ((with_reducible refine gate_callee (f := 20) rfl ?_); refine goesL_ (some 68) rfl rfl Tryd.func20 (by kernel_rfl) rfl #[.slice Ao64 t383.length co64] rfl (by (try simp only [List.map_toArray, List.map_cons, List.map_nil]); first | done | rfl | (simp only [List.length_drop, List.length_take]; rfl)) ?_; (with_reducible refine (header_TakeSegment.calls _ _ t383 t386 t387 t388 t389 t390 t391 t392 t393 _ ?side1 ?side2 (Tab.below HTAB.out (by repeat (first | (with_reducible first | exact HB.out | apply bX_ | apply bW_ | apply bY_ | refine bS_ ?_ GE363.out | refine bS_ ?_ GE379.out) | exact HB.out))) A47.out).mono ?_); (case side1 => repeat (first | exact (Kd.R_reads' HO385.out).2.2 | (with_reducible refine Kd.C_alloc ?_ _) | (with_reducible refine Kd.C_drewN ?_ _) | (with_reducible refine Kd.C_drew ?_))); (case side2 => exact (Kd.R_reads' HO385.out).2.1); rintro e w65 ⟨rfl, hb⟩; refine ⟨_, rfl, ?_⟩; have n0_ := Aside0.mk (Kd.R_below (by (with_reducible repeat (first | apply Kd.R_alloc | apply Kd.R_drewN | apply Kd.R_drew)); exact HO_5.out) hb); have n1_ := Aside0.mk (Kd.R_below (by (with_reducible repeat (first | apply Kd.R_alloc | apply Kd.R_drewN | apply Kd.R_drew)); exact HO_380003.out) hb); have n2_ := Aside0.mk (Kd.R_below (by (with_reducible repeat (first | apply Kd.R_alloc | apply Kd.R_drewN | apply Kd.R_drew)); exact HO_380004.out) hb); have n3_ := Aside0.mk (Kd.R_below (by (with_reducible repeat (first | apply Kd.R_alloc | apply Kd.R_drewN | apply Kd.R_drew)); exact HO385.out) hb); have n4_ := Aside0.mk (blk_below (g := gb363) (o := .cells #[.int .u64 a0_0, .int .u64 64, .int .u64 (IntKind.u64.wrap (64 + (IntKind.u64.wrap (56 * (IntKind.u64.wrap ((l0_3.length : Int))))))), .slice (some ad382) l0_3.length c0_3, .slice A0_4 l0_4.length c0_4] 27 (0, 0)) (by (with_reducible repeat (first | refine bN_ ?_ _ | refine bD_ ?_ | refine bA_ ?_ _)); exact BK363.out) hb); have n5_ := Aside0.mk (blk_below (g := gb379) (o := .cells #[.int .u64 t369, .int .u64 t370, .int .u64 t371, .slice Ao23 t372.length co23, .slice Ao24 t375.length co24] 27 (0, 0)) (by (with_reducible repeat (first | refine bN_ ?_ _ | refine bD_ ?_ | refine bA_ ?_ _)); exact BK379.out) hb); have n6_ := Aside0.mk (below_step (by repeat (first | (with_reducible first | exact HB.out | apply bX_ | apply bW_ | apply bY_ | refine bS_ ?_ GE363.out | refine bS_ ?_ GE379.out) | exact HB.out)) hb); clear HO_5; clear HO_380003; clear HO_380004; clear HO385; clear BK363; clear BK379; clear HB; have HO_5 := n0_; have HO_380003 := n1_; have HO_380004 := n2_; have HO385 := n3_; have BK363 := n4_; have BK379 := n5_; have HB := n6_; clear n0_ n1_ n2_ n3_ n4_ n5_ n6_; (try clear hb); (try clear hb2); (try clear hk); (try clear hi)) | ((with_reducible refine gate_dst (N := 9) rfl ?_); (try (refine gate_guard (by rfl) ?_; dsimp only)); refine box_event ?hg (N := 9) ?hd (cs := #[.int .u32 0, .int .u32 0, .int .u64 0, .int .u64 0, .int .u64 0, .int .u64 0, .int .u64 0]) (t := 30) ?hr ?_; (case hd => rfl); (case hg => rfl); (case hr => first | (go_simp; done) | (go_simp; rfl)); intro gb394 hg w66 hbox hb; have n0_ := Aside0.mk (Kd.R_below (by (with_reducible repeat (first | apply Kd.R_alloc | apply Kd.R_drewN | apply Kd.R_drew)); exact HO_5.out) hb); have n1_ := Aside0.mk (Kd.R_below (Kd.R_elderB (by (with_reducible repeat (first | apply Kd.R_alloc | apply Kd.R_drewN | apply Kd.R_drew)); exact HO_380003.out) gb394 (Nat.le_of_eq hg.symm)) hb); have n2_ := Aside0.mk (Kd.R_below (by (with_reducible repeat (first | apply Kd.R_alloc | apply Kd.R_drewN | apply Kd.R_drew)); exact HO_380004.out) hb); have n3_ := Aside0.mk (Kd.R_below (by (with_reducible repeat (first | apply Kd.R_alloc | apply Kd.R_drewN | apply Kd.R_drew)); exact HO385.out) hb); have n4_ := Aside0.mk (blk_below (g := gb363) (o := .cells #[.int .u64 a0_0, .int .u64 64, .int .u64 (IntKind.u64.wrap (64 + (IntKind.u64.wrap (56 * (IntKind.u64.wrap ((l0_3.length : Int))))))), .slice (some ad382) l0_3.length c0_3, .slice A0_4 l0_4.length c0_4] 27 (0, 0)) (by (with_reducible repeat (first | refine bN_ ?_ _ | refine bD_ ?_ | refine bA_ ?_ _)); exact BK363.out) hb); have n5_ := Aside0.mk (blk_below (g := gb379) (o := .cells #[.int .u64 t369, .int .u64 t370, .int .u64 t371, .slice Ao23 t372.length co23, .slice Ao24 t375.length co24] 27 (0, 0)) (by (with_reducible repeat (first | refine bN_ ?_ _ | refine bD_ ?_ | refine bA_ ?_ _)); exact BK379.out) hb); have n6_ := Aside0.mk (below_step (by repeat (first | (with_reducible first | exact HB.out | apply bX_ | apply bW_ | apply bY_ | refine bS_ ?_ GE363.out | refine bS_ ?_ GE379.out) | exact HB.out)) hb); have n7_ := Aside0.mk (hbox); have n8_ := Aside0.mk ((by rw [hg]; exact (below_size (by repeat (first | (with_reducible first | exact HB.out | apply bX_ | apply bW_ | apply bY_ | refine bS_ ?_ GE363.out | refine bS_ ?_ GE379.out) | exact HB.out))) : w.heap.size ≤ gb394)); have n9_ := Aside0.mk ((by rw [hg]; exact (below_size (by repeat (first | (with_reducible first | exact HB.out | apply bX_ | apply bW_ | apply bY_ | refine bS_ ?_ GE363.out | refine bS_ ?_ GE379.out) | exact HB.out))) : w.heap.size ≤ gb394)); have n10_ := Aside0.mk ((by rw [hg]; exact Nat.ne_of_lt (blk_lt (g := gb363) (o := .cells #[.int .u64 a0_0, .int .u64 64, .int .u64 (IntKind.u64.wrap (64 + (IntKind.u64.wrap (56 * (IntKind.u64.wrap ((l0_3.length : Int))))))), .slice (some ad382) l0_3.length c0_3, .slice A0_4 l0_4.length c0_4] 27 (0, 0)) (by (with_reducible repeat (first | refine bN_ ?_ _ | refine bD_ ?_ | refine bA_ ?_ _)); exact BK363.out)) : gb363 ≠ gb394)); have n11_ := Aside0.mk ((by rw [hg]; exact Nat.ne_of_gt (blk_lt (g := gb363) (o := .cells #[.int .u64 a0_0, .int .u64 64, .int .u64 (IntKind.u64.wrap (64 + (IntKind.u64.wrap (56 * (IntKind.u64.wrap ((l0_3.length : Int))))))), .slice (some ad382) l0_3.length c0_3, .slice A0_4 l0_4.length c0_4] 27 (0, 0)) (by (with_reducible repeat (first | refine bN_ ?_ _ | refine bD_ ?_ | refine bA_ ?_ _)); exact BK363.out)) : gb394 ≠ gb363)); have n12_ := Aside0.mk ((by rw [hg]; exact Nat.ne_of_lt (blk_lt (g := gb379) (o := .cells #[.int .u64 t369, .int .u64 t370, .int .u64 t371, .slice Ao23 t372.length co23, .slice Ao24 t375.length co24] 27 (0, 0)) (by (with_reducible repeat (first | refine bN_ ?_ _ | refine bD_ ?_ | refine bA_ ?_ _)); exact BK379.out)) : gb379 ≠ gb394)); have n13_ := Aside0.mk ((by rw [hg]; exact Nat.ne_of_gt (blk_lt (g := gb379) (o := .cells #[.int .u64 t369, .int .u64 t370, .int .u64 t371, .slice Ao23 t372.length co23, .slice Ao24 t375.length co24] 27 (0, 0)) (by (with_reducible repeat (first | refine bN_ ?_ _ | refine bD_ ?_ | refine bA_ ?_ _)); exact BK379.out)) : gb394 ≠ gb379)); clear HO_5; clear HO_380003; clear HO_380004; clear HO385; clear BK363; clear BK379; clear HB; have HO_5 := n0_; have HO_380003 := n1_; have HO_380004 := n2_; have HO385 := n3_; have BK363 := n4_; have BK379 := n5_; have HB := n6_; have BK394 := n7_; have GW394 := n8_; have GE394 := n9_; have NB363_394 := n10_; have NB394_363 := n11_; have NB379_394 := n12_; have NB394_379 := n13_; clear n0_ n1_ n2_ n3_ n4_ n5_ n6_ n7_ n8_ n9_ n10_ n11_ n12_ n13_; clear hb hbox hg; have hnb67 := NB394_363.out; have hnc67 := NB363_394.out; have hnb68 := NB394_379.out; have hnc68 := NB379_394.out; have hcz69_0 : w66.cell? ⟨gb394, 0, none⟩ = some (.int .u32 0) := (bC_ BK394.out 0).trans rfl; have hcz69_1 : w66.cell? ⟨gb394, 1, none⟩ = some (.int .u32 0) := (bC_ BK394.out 1).trans rfl; have hcz69_2 : w66.cell? ⟨gb394, 2, none⟩ = some (.int .u64 0) := (bC_ BK394.out 2).trans rfl; have hcz69_3 : w66.cell? ⟨gb394, 3, none⟩ = some (.int .u64 0) := (bC_ BK394.out 3).trans rfl; have hcz69_4 : w66.cell? ⟨gb394, 4, none⟩ = some (.int .u64 0) := (bC_ BK394.out 4).trans rfl; have hcz69_5 : w66.cell? ⟨gb394, 5, none⟩ = some (.int .u64 0) := (bC_ BK394.out 5).trans rfl; have hcz69_6 : w66.cell? ⟨gb394, 6, none⟩ = some (.int .u64 0) := (bC_ BK394.out 6).trans rfl; have hfz69_0 := bF_ BK394.out 0; have hfz69_1 := bF_ BK394.out 1; have hfz69_2 := bF_ BK394.out 2; have hfz69_3 := bF_ BK394.out 3; have hfz69_4 := bF_ BK394.out 4; have hfz69_5 := bF_ BK394.out 5; have hfz69_6 := bF_ BK394.out 6))
                      have n0_ : Aside0 (Kd.R (Kd.int .u8) 5 (((((((w66.setCell ⟨gb394, 0, none⟩ (.int .u32 t386)).setCell ⟨gb394, 1, none⟩ (.int .u32 t387)).setCell ⟨gb394, 2, none⟩ (.int .u64 t388)).setCell ⟨gb394, 3, none⟩ (.int .u64 t389)).setCell ⟨gb394, 4, none⟩ (.int .u64 t390)).setCell ⟨gb394, 5, none⟩ (.int .u64 t391)).setCell ⟨gb394, 6, none⟩ (.int .u64 t392)) w.heap.size (fun k_ => some k_ ≠ (.slice Ao64 t383.length co64 : Value).ownBlock) (.slice Ao18 t366.length co18) t366) := ⟨by (with_reducible repeat (first | apply Kd.R_alloc | apply Kd.R_drewN | apply Kd.R_drew)); exact Kd.R_mono (Kd.R_far (p := ⟨gb394, 6, none⟩) (Kd.R_far (p := ⟨gb394, 5, none⟩) (Kd.R_far (p := ⟨gb394, 4, none⟩) (Kd.R_far (p := ⟨gb394, 3, none⟩) (Kd.R_far (p := ⟨gb394, 2, none⟩) (Kd.R_far (p := ⟨gb394, 1, none⟩) (Kd.R_far (p := ⟨gb394, 0, none⟩) (Kd.R_types HO_5.out BK394.out (by decide)) (fun _ hk => hk.2) (.int .u32 t386)) (fun _ hk => hk.2) (.int .u32 t387)) (fun _ hk => hk.2) (.int .u64 t388)) (fun _ hk => hk.2) (.int .u64 t389)) (fun _ hk => hk.2) (.int .u64 t390)) (fun _ hk => hk.2) (.int .u64 t391)) (fun _ hk => hk.2) (.int .u64 t392)) (fun _ hk => hk.1.2)⟩
                      have n1_ : Aside0 (Kd.R k30 30 (((((((w66.setCell ⟨gb394, 0, none⟩ (.int .u32 t386)).setCell ⟨gb394, 1, none⟩ (.int .u32 t387)).setCell ⟨gb394, 2, none⟩ (.int .u64 t388)).setCell ⟨gb394, 3, none⟩ (.int .u64 t389)).setCell ⟨gb394, 4, none⟩ (.int .u64 t390)).setCell ⟨gb394, 5, none⟩ (.int .u64 t391)).setCell ⟨gb394, 6, none⟩ (.int .u64 t392)) w.heap.size (fun k_ => k_ ≠ gb394) (.slice Ao23 t372.length co23) t372) := ⟨by (with_reducible repeat (first | apply Kd.R_alloc | apply Kd.R_drewN | apply Kd.R_drew)); exact Kd.R_mono (Kd.R_far (p := ⟨gb394, 6, none⟩) (Kd.R_far (p := ⟨gb394, 5, none⟩) (Kd.R_far (p := ⟨gb394, 4, none⟩) (Kd.R_far (p := ⟨gb394, 3, none⟩) (Kd.R_far (p := ⟨gb394, 2, none⟩) (Kd.R_far (p := ⟨gb394, 1, none⟩) (Kd.R_far (p := ⟨gb394, 0, none⟩) (Kd.R_mono HO_380003.out (fun k_ hk => (⟨hk, hk.2⟩ : _ ∧ k_ ≠ gb394))) (fun _ hk => hk.2) (.int .u32 t386)) (fun _ hk => hk.2) (.int .u32 t387)) (fun _ hk => hk.2) (.int .u64 t388)) (fun _ hk => hk.2) (.int .u64 t389)) (fun _ hk => hk.2) (.int .u64 t390)) (fun _ hk => hk.2) (.int .u64 t391)) (fun _ hk => hk.2) (.int .u64 t392)) (fun _ hk => hk.1.2)⟩
                      have n2_ : Aside0 (Kd.R k32 32 (((((((w66.setCell ⟨gb394, 0, none⟩ (.int .u32 t386)).setCell ⟨gb394, 1, none⟩ (.int .u32 t387)).setCell ⟨gb394, 2, none⟩ (.int .u64 t388)).setCell ⟨gb394, 3, none⟩ (.int .u64 t389)).setCell ⟨gb394, 4, none⟩ (.int .u64 t390)).setCell ⟨gb394, 5, none⟩ (.int .u64 t391)).setCell ⟨gb394, 6, none⟩ (.int .u64 t392)) w.heap.size (fun _ => True) (.slice Ao24 t375.length co24) t375) := ⟨by (with_reducible repeat (first | apply Kd.R_alloc | apply Kd.R_drewN | apply Kd.R_drew)); exact Kd.R_mono (Kd.R_far (p := ⟨gb394, 6, none⟩) (Kd.R_far (p := ⟨gb394, 5, none⟩) (Kd.R_far (p := ⟨gb394, 4, none⟩) (Kd.R_far (p := ⟨gb394, 3, none⟩) (Kd.R_far (p := ⟨gb394, 2, none⟩) (Kd.R_far (p := ⟨gb394, 1, none⟩) (Kd.R_far (p := ⟨gb394, 0, none⟩) (Kd.R_types HO_380004.out BK394.out (by decide)) (fun _ hk => hk.2) (.int .u32 t386)) (fun _ hk => hk.2) (.int .u32 t387)) (fun _ hk => hk.2) (.int .u64 t388)) (fun _ hk => hk.2) (.int .u64 t389)) (fun _ hk => hk.2) (.int .u64 t390)) (fun _ hk => hk.2) (.int .u64 t391)) (fun _ hk => hk.2) (.int .u64 t392)) (fun _ hk => trivial)⟩
                      have n3_ : Aside0 (Kd.R (Kd.int .u8) 5 (((((((w66.setCell ⟨gb394, 0, none⟩ (.int .u32 t386)).setCell ⟨gb394, 1, none⟩ (.int .u32 t387)).setCell ⟨gb394, 2, none⟩ (.int .u64 t388)).setCell ⟨gb394, 3, none⟩ (.int .u64 t389)).setCell ⟨gb394, 4, none⟩ (.int .u64 t390)).setCell ⟨gb394, 5, none⟩ (.int .u64 t391)).setCell ⟨gb394, 6, none⟩ (.int .u64 t392)) w.heap.size (fun k_ => some k_ ≠ (.slice Ao18 t366.length co18 : Value).ownBlock) (.slice Ao64 t383.length co64) t383) := ⟨by (with_reducible repeat (first | apply Kd.R_alloc | apply Kd.R_drewN | apply Kd.R_drew)); exact Kd.R_mono (Kd.R_far (p := ⟨gb394, 6, none⟩) (Kd.R_far (p := ⟨gb394, 5, none⟩) (Kd.R_far (p := ⟨gb394, 4, none⟩) (Kd.R_far (p := ⟨gb394, 3, none⟩) (Kd.R_far (p := ⟨gb394, 2, none⟩) (Kd.R_far (p := ⟨gb394, 1, none⟩) (Kd.R_far (p := ⟨gb394, 0, none⟩) (Kd.R_types HO385.out BK394.out (by decide)) (fun _ hk => hk.2) (.int .u32 t386)) (fun _ hk => hk.2) (.int .u32 t387)) (fun _ hk => hk.2) (.int .u64 t388)) (fun _ hk => hk.2) (.int .u64 t389)) (fun _ hk => hk.2) (.int .u64 t390)) (fun _ hk => hk.2) (.int .u64 t391)) (fun _ hk => hk.2) (.int .u64 t392)) (fun _ hk => hk.1.2)⟩
                      have n4_ : Aside0 ((((((((w66.setCell ⟨gb394, 0, none⟩ (.int .u32 t386)).setCell ⟨gb394, 1, none⟩ (.int .u32 t387)).setCell ⟨gb394, 2, none⟩ (.int .u64 t388)).setCell ⟨gb394, 3, none⟩ (.int .u64 t389)).setCell ⟨gb394, 4, none⟩ (.int .u64 t390)).setCell ⟨gb394, 5, none⟩ (.int .u64 t391)).setCell ⟨gb394, 6, none⟩ (.int .u64 t392)).heap[gb363]? = some (.cells #[.int .u64 a0_0, .int .u64 64, .int .u64 (IntKind.u64.wrap (64 + (IntKind.u64.wrap (56 * (IntKind.u64.wrap ((l0_3.length : Int))))))), .slice (some ad382) l0_3.length c0_3, .slice A0_4 l0_4.length c0_4] 27 (0, 0))) := ⟨by (with_reducible repeat (first | refine bN_ ?_ _ | refine bD_ ?_ | refine bA_ ?_ _)); refine blk_far ?_ NB363_394.out _; (with_reducible repeat (first | refine bN_ ?_ _ | refine bD_ ?_ | refine bA_ ?_ _)); refine blk_far ?_ NB363_394.out _; (with_reducible repeat (first | refine bN_ ?_ _ | refine bD_ ?_ | refine bA_ ?_ _)); refine blk_far ?_ NB363_394.out _; (with_reducible repeat (first | refine bN_ ?_ _ | refine bD_ ?_ | refine bA_ ?_ _)); refine blk_far ?_ NB363_394.out _; (with_reducible repeat (first | refine bN_ ?_ _ | refine bD_ ?_ | refine bA_ ?_ _)); refine blk_far ?_ NB363_394.out _; (with_reducible repeat (first | refine bN_ ?_ _ | refine bD_ ?_ | refine bA_ ?_ _)); refine blk_far ?_ NB363_394.out _; (with_reducible repeat (first | refine bN_ ?_ _ | refine bD_ ?_ | refine bA_ ?_ _)); refine blk_far ?_ NB363_394.out _; (with_reducible repeat (first | refine bN_ ?_ _ | refine bD_ ?_ | refine bA_ ?_ _)); exact BK363.out⟩
                      have n5_ : Aside0 ((((((((w66.setCell ⟨gb394, 0, none⟩ (.int .u32 t386)).setCell ⟨gb394, 1, none⟩ (.int .u32 t387)).setCell ⟨gb394, 2, none⟩ (.int .u64 t388)).setCell ⟨gb394, 3, none⟩ (.int .u64 t389)).setCell ⟨gb394, 4, none⟩ (.int .u64 t390)).setCell ⟨gb394, 5, none⟩ (.int .u64 t391)).setCell ⟨gb394, 6, none⟩ (.int .u64 t392)).heap[gb379]? = some (.cells #[.int .u64 t369, .int .u64 t370, .int .u64 t371, .slice Ao23 t372.length co23, .slice Ao24 t375.length co24] 27 (0, 0))) := ⟨by (with_reducible repeat (first | refine bN_ ?_ _ | refine bD_ ?_ | refine bA_ ?_ _)); refine blk_far ?_ NB379_394.out _; (with_reducible repeat (first | refine bN_ ?_ _ | refine bD_ ?_ | refine bA_ ?_ _)); refine blk_far ?_ NB379_394.out _; (with_reducible repeat (first | refine bN_ ?_ _ | refine bD_ ?_ | refine bA_ ?_ _)); refine blk_far ?_ NB379_394.out _; (with_reducible repeat (first | refine bN_ ?_ _ | refine bD_ ?_ | refine bA_ ?_ _)); refine blk_far ?_ NB379_394.out _; (with_reducible repeat (first | refine bN_ ?_ _ | refine bD_ ?_ | refine bA_ ?_ _)); refine blk_far ?_ NB379_394.out _; (with_reducible repeat (first | refine bN_ ?_ _ | refine bD_ ?_ | refine bA_ ?_ _)); refine blk_far ?_ NB379_394.out _; (with_reducible repeat (first | refine bN_ ?_ _ | refine bD_ ?_ | refine bA_ ?_ _)); refine blk_far ?_ NB379_394.out _; (with_reducible repeat (first | refine bN_ ?_ _ | refine bD_ ?_ | refine bA_ ?_ _)); exact BK379.out⟩
                      have n6_ : Aside0 ((((((((w66.setCell ⟨gb394, 0, none⟩ (.int .u32 t386)).setCell ⟨gb394, 1, none⟩ (.int .u32 t387)).setCell ⟨gb394, 2, none⟩ (.int .u64 t388)).setCell ⟨gb394, 3, none⟩ (.int .u64 t389)).setCell ⟨gb394, 4, none⟩ (.int .u64 t390)).setCell ⟨gb394, 5, none⟩ (.int .u64 t391)).setCell ⟨gb394, 6, none⟩ (.int .u64 t392)).heap[gb394]? = some (.cells #[.int .u32 t386, .int .u32 t387, .int .u64 t388, .int .u64 t389, .int .u64 t390, .int .u64 t391, .int .u64 t392] 30 (0, 0))) := ⟨by (with_reducible repeat (first | refine bN_ ?_ _ | refine bD_ ?_ | refine bA_ ?_ _)); refine blk_put (cs := #[.int .u32 t386, .int .u32 t387, .int .u64 t388, .int .u64 t389, .int .u64 t390, .int .u64 t391, .int .u64 0]) ?_ 6 _ rfl; (with_reducible repeat (first | refine bN_ ?_ _ | refine bD_ ?_ | refine bA_ ?_ _)); refine blk_put (cs := #[.int .u32 t386, .int .u32 t387, .int .u64 t388, .int .u64 t389, .int .u64 t390, .int .u64 0, .int .u64 0]) ?_ 5 _ rfl; (with_reducible repeat (first | refine bN_ ?_ _ | refine bD_ ?_ | refine bA_ ?_ _)); refine blk_put (cs := #[.int .u32 t386, .int .u32 t387, .int .u64 t388, .int .u64 t389, .int .u64 0, .int .u64 0, .int .u64 0]) ?_ 4 _ rfl; (with_reducible repeat (first | refine bN_ ?_ _ | refine bD_ ?_ | refine bA_ ?_ _)); refine blk_put (cs := #[.int .u32 t386, .int .u32 t387, .int .u64 t388, .int .u64 0, .int .u64 0, .int .u64 0, .int .u64 0]) ?_ 3 _ rfl; (with_reducible repeat (first | refine bN_ ?_ _ | refine bD_ ?_ | refine bA_ ?_ _)); refine blk_put (cs := #[.int .u32 t386, .int .u32 t387, .int .u64 0, .int .u64 0, .int .u64 0, .int .u64 0, .int .u64 0]) ?_ 2 _ rfl; (with_reducible repeat (first | refine bN_ ?_ _ | refine bD_ ?_ | refine bA_ ?_ _)); refine blk_put (cs := #[.int .u32 t386, .int .u32 0, .int .u64 0, .int .u64 0, .int .u64 0, .int .u64 0, .int .u64 0]) ?_ 1 _ rfl; (with_reducible repeat (first | refine bN_ ?_ _ | refine bD_ ?_ | refine bA_ ?_ _)); refine blk_put (cs := #[.int .u32 0, .int .u32 0, .int .u64 0, .int .u64 0, .int .u64 0, .int .u64 0, .int .u64 0]) ?_ 0 _ rfl; (with_reducible repeat (first | refine bN_ ?_ _ | refine bD_ ?_ | refine bA_ ?_ _)); exact BK394.out⟩
                      have n7_ : Aside0 (Below w.heap.size w (((((((w66.setCell ⟨gb394, 0, none⟩ (.int .u32 t386)).setCell ⟨gb394, 1, none⟩ (.int .u32 t387)).setCell ⟨gb394, 2, none⟩ (.int .u64 t388)).setCell ⟨gb394, 3, none⟩ (.int .u64 t389)).setCell ⟨gb394, 4, none⟩ (.int .u64 t390)).setCell ⟨gb394, 5, none⟩ (.int .u64 t391)).setCell ⟨gb394, 6, none⟩ (.int .u64 t392))) := ⟨by repeat (first | (with_reducible first | exact HB.out | apply bX_ | apply bW_ | apply bY_ | refine bS_ ?_ GE363.out | refine bS_ ?_ GE379.out | refine bS_ ?_ GE394.out) | exact HB.out)⟩
                      (try clear HO_5)
                      (try clear HO_380003)
                      (try clear HO_380004)
                      (try clear HO385)
                      (try clear BK363)
                      (try clear BK379)
                      (try clear BK394)
                      (try clear HB)
                      generalize (((((((w66.setCell ⟨gb394, 0, none⟩ (.int .u32 t386)).setCell ⟨gb394, 1, none⟩ (.int .u32 t387)).setCell ⟨gb394, 2, none⟩ (.int .u64 t388)).setCell ⟨gb394, 3, none⟩ (.int .u64 t389)).setCell ⟨gb394, 4, none⟩ (.int .u64 t390)).setCell ⟨gb394, 5, none⟩ (.int .u64 t391)).setCell ⟨gb394, 6, none⟩ (.int .u64 t392)) = w70 at n0_ n1_ n2_ n3_ n4_ n5_ n6_ n7_ ⊢
                      have HO_5 := n0_
                      have HO_380003 := n1_
                      have HO_380004 := n2_
                      have HO385 := n3_
                      have BK363 := n4_
                      have BK379 := n5_
                      have BK394 := n6_
                      have HB := n7_
                      clear n0_ n1_ n2_ n3_ n4_ n5_ n6_ n7_
                      have n0_ := Aside0.mk (Kd.R_drew HO_5.out)
                      have n1_ := Aside0.mk (Kd.R_drew HO_380003.out)
                      have n2_ := Aside0.mk (Kd.R_drew HO_380004.out)
                      have n3_ := Aside0.mk (Kd.R_drew HO385.out)
                      have n4_ := Aside0.mk (bD_ BK363.out)
                      have n5_ := Aside0.mk (bD_ BK379.out)
                      have n6_ := Aside0.mk (bD_ BK394.out)
                      have n7_ := Aside0.mk (bY_ HB.out)
                      clear HO_5
                      clear HO_380003
                      clear HO_380004
                      clear HO385
                      clear BK363
                      clear BK379
                      clear BK394
                      clear HB
                      have HO_5 := n0_
                      have HO_380003 := n1_
                      have HO_380004 := n2_
                      have HO385 := n3_
                      have BK363 := n4_
                      have BK379 := n5_
                      have BK394 := n6_
                      have HB := n7_
                      clear n0_ n1_ n2_ n3_ n4_ n5_ n6_ n7_
                      have p395 : 0 ≤ (x8_2 : Int) := of_decide_eq_true (by first | (with_reducible assumption) | assumption)
                      have q395 : x8_2 < (l0_3.length : Int) := of_decide_eq_true (by first | (with_reducible assumption) | assumption)
                      obtain ⟨ad395, e395, hx395_0, hx395_1, hx395_2, hx395_3, hx395_4, hx395_5, hx395_6⟩ := at_T30 HR0_3.out x8_2 p395 q395
                      have hw395_6 := hx395_6
                      have hw395_5 := hx395_5
                      have hw395_4 := hx395_4
                      have hw395_3 := hx395_3
                      have hw395_2 := hx395_2
                      have hw395_1 := hx395_1
                      have hw395_0 := hx395_0
                      obtain rfl : ad382 = ad395 := (by injection e395)
                      replace hx395_0 := (HB.out.cell (World.block_lt_of_cell? w _ hx395_0)).trans hx395_0
                      replace hx395_1 := (HB.out.cell (World.block_lt_of_cell? w _ hx395_1)).trans hx395_1
                      replace hx395_2 := (HB.out.cell (World.block_lt_of_cell? w _ hx395_2)).trans hx395_2
                      replace hx395_3 := (HB.out.cell (World.block_lt_of_cell? w _ hx395_3)).trans hx395_3
                      replace hx395_4 := (HB.out.cell (World.block_lt_of_cell? w _ hx395_4)).trans hx395_4
                      replace hx395_5 := (HB.out.cell (World.block_lt_of_cell? w _ hx395_5)).trans hx395_5
                      replace hx395_6 := (HB.out.cell (World.block_lt_of_cell? w _ hx395_6)).trans hx395_6
                      replace p395 := eq_true p395
                      replace q395 := eq_true q395
                      refine start_ (n := 11) (S := fun w' => w'.cell? ⟨gb394, 0, none⟩ = some (.int .u32 t386) ∧ w'.cell? ⟨gb394, 1, none⟩ = some (.int .u32 t387) ∧ w'.cell? ⟨gb394, 2, none⟩ = some (.int .u64 t388) ∧ w'.cell? ⟨gb394, 3, none⟩ = some (.int .u64 t389) ∧ w'.cell? ⟨gb394, 4, none⟩ = some (.int .u64 t390) ∧ w'.cell? ⟨gb394, 5, none⟩ = some (.int .u64 t391) ∧ w'.cell? ⟨gb394, 6, none⟩ = some (.int .u64 t392) ∧ w'.cell? ⟨gb363, 0, none⟩ = some (.int .u64 a0_0) ∧ w'.cell? ⟨gb363, 1, none⟩ = some (.int .u64 64) ∧ w'.cell? ⟨gb363, 2, none⟩ = some (.int .u64 (IntKind.u64.wrap (64 + (IntKind.u64.wrap (56 * (IntKind.u64.wrap ((l0_3.length : Int)))))))) ∧ w'.cell? ⟨gb363, 3, none⟩ = some (.slice (some ad382) l0_3.length c0_3) ∧ w'.cell? ⟨gb363, 4, none⟩ = some (.slice A0_4 l0_4.length c0_4) ∧ w'.cell? (ad382.add ((x8_2).toNat * 7)) = some (.int .u32 ((rd_T30 l0_3 x8_2).f0)) ∧ w'.cell? ⟨(ad382.add ((x8_2).toNat * 7)).block, (ad382.add ((x8_2).toNat * 7)).off + 1, none⟩ = some (.int .u32 ((rd_T30 l0_3 x8_2).f1)) ∧ w'.cell? ⟨(ad382.add ((x8_2).toNat * 7)).block, (ad382.add ((x8_2).toNat * 7)).off + 2, none⟩ = some (.int .u64 ((rd_T30 l0_3 x8_2).f2)) ∧ w'.cell? ⟨(ad382.add ((x8_2).toNat * 7)).block, (ad382.add ((x8_2).toNat * 7)).off + 3, none⟩ = some (.int .u64 ((rd_T30 l0_3 x8_2).f3)) ∧ w'.cell? ⟨(ad382.add ((x8_2).toNat * 7)).block, (ad382.add ((x8_2).toNat * 7)).off + 4, none⟩ = some (.int .u64 ((rd_T30 l0_3 x8_2).f4)) ∧ w'.cell? ⟨(ad382.add ((x8_2).toNat * 7)).block, (ad382.add ((x8_2).toNat * 7)).off + 5, none⟩ = some (.int .u64 ((rd_T30 l0_3 x8_2).f5)) ∧ w'.cell? ⟨(ad382.add ((x8_2).toNat * 7)).block, (ad382.add ((x8_2).toNat * 7)).off + 6, none⟩ = some (.int .u64 ((rd_T30 l0_3 x8_2).f6))) (ds := []) #[false, false, false, false, false, false, false, false, false, false, false] (by kernel_rfl) rfl rfl ⟨(bC_ BK394.out 0).trans rfl, (bC_ BK394.out 1).trans rfl, (bC_ BK394.out 2).trans rfl, (bC_ BK394.out 3).trans rfl, (bC_ BK394.out 4).trans rfl, (bC_ BK394.out 5).trans rfl, (bC_ BK394.out 6).trans rfl, (bC_ BK363.out 0).trans rfl, (bC_ BK363.out 1).trans rfl, (bC_ BK363.out 2).trans rfl, (bC_ BK363.out 3).trans rfl, (bC_ BK363.out 4).trans rfl, ((HB.out.cell (World.block_lt_of_cell? w _ hw395_0)).trans hw395_0), ((HB.out.cell (World.block_lt_of_cell? w _ hw395_1)).trans hw395_1), ((HB.out.cell (World.block_lt_of_cell? w _ hw395_2)).trans hw395_2), ((HB.out.cell (World.block_lt_of_cell? w _ hw395_3)).trans hw395_3), ((HB.out.cell (World.block_lt_of_cell? w _ hw395_4)).trans hw395_4), ((HB.out.cell (World.block_lt_of_cell? w _ hw395_5)).trans hw395_5), ((HB.out.cell (World.block_lt_of_cell? w _ hw395_6)).trans hw395_6)⟩ (fun hHeld => ?_); refine with_tabW sundiallaw03_HeaderBack.tab12 sundiallaw03_HeaderBack.bits12 (fun HT_ HW_ => ?_)
                      generalize w70.drew = w71 at HO_5 HO_380003 HO_380004 HO385 BK363 BK379 BK394 HB hx395_0 hx395_1 hx395_2 hx395_3 hx395_4 hx395_5 hx395_6 hHeld ⊢
                      refine pure_ (i := 0) (N := some 71) (v := ?_) (a' := ?_) #[true, false, false, false, false, false, false, false, false, false, false] rfl rfl (any_of HT_.out (by kernel_rfl)) (fun _ _ _ h => h) (Or.inl ⟨by rfl, ?_⟩) ?_ ?_
                      rotate_left
                      · intro w'
                        go_simp
                        with_reducible rfl
                      rotate_left
                      · simp only [Act.put, List.setIfInBounds_toArray, List.set_cons_zero, List.set_cons_succ, i64_w, i32_w]
                        rfl
                      refine pure_ (i := 1) (N := some 72) (v := ?_) (a' := ?_) #[true, true, false, false, false, false, false, false, false, false, false] rfl rfl (any_of HT_.out (by kernel_rfl)) (fun _ _ _ h => h) (Or.inl ⟨by rfl, ?_⟩) ?_ ?_
                      rotate_left
                      · intro w'
                        go_simp
                        with_reducible rfl
                      rotate_left
                      · simp only [Act.put, List.setIfInBounds_toArray, List.set_cons_zero, List.set_cons_succ, i64_w, i32_w]
                        rfl
                      refine pure_ (i := 2) (N := some 73) (v := ?_) (a' := ?_) #[true, true, true, false, false, false, false, false, false, false, false] rfl rfl (any_of HT_.out (by kernel_rfl)) (fun _ _ _ h => h) (Or.inl ⟨by rfl, ?_⟩) ?_ ?_
                      rotate_left
                      · intro w'
                        go_simp
                        with_reducible rfl
                      rotate_left
                      · simp only [Act.put, List.setIfInBounds_toArray, List.set_cons_zero, List.set_cons_succ, i64_w, i32_w]
                        rfl
                      refine pure_ (i := 4) (N := some 75) (v := ?_) (a' := ?_) #[true, true, true, false, true, false, false, false, false, false, false] rfl rfl (any_of HT_.out (by kernel_rfl)) (fun _ _ _ h => h) (Or.inl ⟨by rfl, ?_⟩) ?_ ?_
                      rotate_left
                      · intro w'
                        go_simp
                        with_reducible rfl
                      rotate_left
                      · simp only [Act.put, List.setIfInBounds_toArray, List.set_cons_zero, List.set_cons_succ, i64_w, i32_w]
                        rfl
                      refine pure_ (i := 6) (N := some 77) (v := ?_) (a' := ?_) #[true, true, true, false, true, false, true, false, false, false, false] rfl rfl (any_of HT_.out (by kernel_rfl)) (fun _ _ _ h => h) (Or.inl ⟨by rfl, ?_⟩) ?_ ?_
                      rotate_left
                      · intro w'
                        go_simp
                        with_reducible rfl
                      rotate_left
                      · simp only [Act.put, List.setIfInBounds_toArray, List.set_cons_zero, List.set_cons_succ, i64_w, i32_w]
                        rfl
                      refine take_ (i := 3) (N := some 74) (v := ?_) (a' := ?_) #[true, true, true, true, true, false, true, false, false, false, false] rfl rfl (take_ofW HT_.out HW_.out (by kernel_rfl)) (fun _ _ _ h => h) (Or.inl ⟨by rfl, ?_⟩) hHeld ?_ ?_
                      rotate_left
                      · rintro w' ⟨s0, s1, s2, s3, s4, s5, s6, s7, s8, s9, s10, s11, s12, s13, s14, s15, s16, s17, s18⟩
                        go_simp
                        with_reducible rfl
                      rotate_left
                      · simp only [Act.put, List.setIfInBounds_toArray, List.set_cons_zero, List.set_cons_succ, i64_w, i32_w]
                        rfl
                      refine take_ (i := 5) (N := some 76) (v := ?_) (a' := ?_) #[true, true, true, true, true, true, true, false, false, false, false] rfl rfl (take_ofW HT_.out HW_.out (by kernel_rfl)) (fun _ _ _ h => h) (Or.inl ⟨by rfl, ?_⟩) hHeld ?_ ?_
                      rotate_left
                      · rintro w' ⟨s0, s1, s2, s3, s4, s5, s6, s7, s8, s9, s10, s11, s12, s13, s14, s15, s16, s17, s18⟩
                        go_simp
                        with_reducible rfl
                      rotate_left
                      · simp only [Act.put, List.setIfInBounds_toArray, List.set_cons_zero, List.set_cons_succ, i64_w, i32_w]
                        rfl
                      refine pure_ (i := 7) (N := some 78) (v := ?_) (a' := ?_) #[true, true, true, true, true, true, true, true, false, false, false] rfl rfl (any_of HT_.out (by kernel_rfl)) (fun _ _ _ h => h) (Or.inl ⟨by rfl, ?_⟩) ?_ ?_
                      rotate_left
                      · intro w'
                        go_simp
                        with_reducible rfl
                      rotate_left
                      · simp only [Act.put, List.setIfInBounds_toArray, List.set_cons_zero, List.set_cons_succ, i64_w, i32_w]
                        rfl
                      refine take_ (i := 8) (N := some 79) (v := ?_) (a' := ?_) #[true, true, true, true, true, true, true, true, true, false, false] rfl rfl (take_ofW HT_.out HW_.out (by kernel_rfl)) (fun _ _ _ h => h) (Or.inl ⟨by rfl, ?_⟩) hHeld ?_ ?_
                      rotate_left
                      · rintro w' ⟨s0, s1, s2, s3, s4, s5, s6, s7, s8, s9, s10, s11, s12, s13, s14, s15, s16, s17, s18⟩
                        go_simp
                        with_reducible rfl
                      rotate_left
                      · simp only [Act.put, List.setIfInBounds_toArray, List.set_cons_zero, List.set_cons_succ, i64_w, i32_w]
                        rfl
                      refine pure_ (i := 9) (N := some 80) (v := ?_) (a' := ?_) #[true, true, true, true, true, true, true, true, true, true, false] rfl rfl (any_of HT_.out (by kernel_rfl)) (fun _ _ _ h => h) (Or.inl ⟨by rfl, ?_⟩) ?_ ?_
                      rotate_left
                      · intro w'
                        go_simp
                        with_reducible rfl
                      rotate_left
                      · simp only [Act.put, List.setIfInBounds_toArray, List.set_cons_zero, List.set_cons_succ, i64_w, i32_w]
                        rfl
                      refine pure_ (i := 10) (N := some 81) (v := ?_) (a' := ?_) #[true, true, true, true, true, true, true, true, true, true, true] rfl rfl (any_of HT_.out (by kernel_rfl)) (fun _ _ _ h => h) (Or.inl ⟨by rfl, ?_⟩) ?_ ?_
                      rotate_left
                      · intro w'
                        go_simp
                        with_reducible rfl
                      rotate_left
                      · simp only [Act.put, List.setIfInBounds_toArray, List.set_cons_zero, List.set_cons_succ, i64_w, i32_w]
                        rfl
                      refine done_ (done_of HT_.out (by kernel_rfl)) ?_
                      try go_wp2
                      go_roundg k2
                      case measure => have := HJ11.out; have := HK2.out; omega
                      case rel => exact ⟨(wrap64 (x8_2 + 1)), (by first | rfl | (simp; done) | (simp [*]; done)), H', ⟨by have := HJ11.out; have := HK2.out; omega⟩, ⟨by (with_reducible repeat (first | apply Kd.R_alloc | apply Kd.R_drewN | apply Kd.R_drew)); exact Kd.R_mono HO_5.out (fun _ hk => trivial)⟩, ⟨by (with_reducible repeat (first | apply Kd.R_alloc | apply Kd.R_drewN | apply Kd.R_drew)); exact Kd.R_mono HO_380003.out (fun _ hk => trivial)⟩, ⟨by (with_reducible repeat (first | apply Kd.R_alloc | apply Kd.R_drewN | apply Kd.R_drew)); exact HO_380004.out⟩, ⟨by (with_reducible repeat (first | refine bN_ ?_ _ | refine bD_ ?_ | refine bA_ ?_ _)); exact BK363.out⟩, ⟨by (with_reducible repeat (first | refine bN_ ?_ _ | refine bD_ ?_ | refine bA_ ?_ _)); exact BK379.out⟩, ⟨by repeat (first | (with_reducible first | exact HB.out | apply bX_ | apply bW_ | apply bY_ | refine bS_ ?_ GE363.out | refine bS_ ?_ GE379.out | refine bS_ ?_ GE394.out) | exact HB.out)⟩⟩
                  · rw [if_neg c48] at H
                    exact absurd H sundiallaw03_HeaderBack.some_no
                · rw [if_neg c45] at H
                  exact absurd H (by simp)
              · rw [if_neg c44] at H
                have c44b0 : decide (x8_2 < (l0_3.length : Int)) = false := decide_eq_false c44
                clear c44
                have H' := Aside0.mk H
                clear H
                have hnb83 := NB363_379.out
                have hnc83 := NB379_363.out
                have hcz84_0 : wr.cell? ⟨gb363, 0, none⟩ = some (.int .u64 a0_0) := (bC_ BK363.out 0).trans rfl
                have hcz84_1 : wr.cell? ⟨gb363, 1, none⟩ = some (.int .u64 64) := (bC_ BK363.out 1).trans rfl
                have hcz84_2 : wr.cell? ⟨gb363, 2, none⟩ = some (.int .u64 (IntKind.u64.wrap (64 + (IntKind.u64.wrap (56 * (IntKind.u64.wrap ((l0_3.length : Int)))))))) := (bC_ BK363.out 2).trans rfl
                have hcz84_3 : wr.cell? ⟨gb363, 3, none⟩ = some (.slice A0_3 l0_3.length c0_3) := (bC_ BK363.out 3).trans rfl
                have hcz84_4 : wr.cell? ⟨gb363, 4, none⟩ = some (.slice A0_4 l0_4.length c0_4) := (bC_ BK363.out 4).trans rfl
                have hfz84_0 := bF_ BK363.out 0
                have hfz84_1 := bF_ BK363.out 1
                have hfz84_2 := bF_ BK363.out 2
                have hfz84_3 := bF_ BK363.out 3
                have hfz84_4 := bF_ BK363.out 4
                go_wp2
                go_loopg [11] k2 (fun kq v11 w' => ∃ (x11_3 : Int), v11 = .int .i64 x11_3 ∧ Aside0 (sundiallaw03_HeaderBack.l1 kq t366 t378 x11_3 a0_0 64 (IntKind.u64.wrap (64 + (IntKind.u64.wrap (56 * (IntKind.u64.wrap ((l0_3.length : Int))))))) l0_3 l0_4 t369 t370 t371 t372 t375 = some true) ∧ Aside0 (kq ≤ k2) ∧ Aside0 (Kd.R (Kd.int .u8) 5 w' w.heap.size (fun _ => True) (.slice Ao18 t366.length co18) t366) ∧ Aside0 (Kd.R k30 30 w' w.heap.size (fun _ => True) (.slice Ao23 t372.length co23) t372) ∧ Aside0 (Kd.R k32 32 w' w.heap.size (fun _ => True) (.slice Ao24 t375.length co24) t375) ∧ Aside0 (w'.heap[gb363]? = some (.cells #[.int .u64 a0_0, .int .u64 64, .int .u64 (IntKind.u64.wrap (64 + (IntKind.u64.wrap (56 * (IntKind.u64.wrap ((l0_3.length : Int))))))), (.slice A0_3 l0_3.length c0_3), (.slice A0_4 l0_4.length c0_4)] 27 (0, 0))) ∧ Aside0 (w'.heap[gb379]? = some (.cells #[.int .u64 t369, .int .u64 t370, .int .u64 t371, (.slice Ao23 t372.length co23), (.slice Ao24 t375.length co24)] 27 (0, 0))) ∧ Aside0 (Below w.heap.size w w'))
                case atStart => exact ⟨(0), (by first | rfl | (simp; done) | (simp [*]; done)), H', ⟨Nat.le_refl _⟩, ⟨by (with_reducible repeat (first | apply Kd.R_alloc | apply Kd.R_drewN | apply Kd.R_drew)); exact HO_5.out⟩, ⟨by (with_reducible repeat (first | apply Kd.R_alloc | apply Kd.R_drewN | apply Kd.R_drew)); exact HO_380003.out⟩, ⟨by (with_reducible repeat (first | apply Kd.R_alloc | apply Kd.R_drewN | apply Kd.R_drew)); exact HO_380004.out⟩, ⟨by (with_reducible repeat (first | refine bN_ ?_ _ | refine bD_ ?_ | refine bA_ ?_ _)); exact BK363.out⟩, ⟨by (with_reducible repeat (first | refine bN_ ?_ _ | refine bD_ ?_ | refine bA_ ?_ _)); exact BK379.out⟩, ⟨by repeat (first | (with_reducible first | exact HB.out | apply bX_ | apply bW_ | apply bY_ | refine bS_ ?_ GE363.out | refine bS_ ?_ GE379.out) | exact HB.out)⟩⟩
                case round =>
                  clear H'
                  (try clear c1); (try clear c2); (try clear p2); (try clear p3); (try clear q3); (try clear hx3); (try clear c4); (try clear c5); (try clear c6); (try clear p6); (try clear c7); (try clear c8); (try clear c16); (try clear c20); (try clear p38); (try clear q38); (try clear hx38); (try clear p39); (try clear q39); (try clear hx39); (try clear c44); (try clear c44b0); (try clear c45); (try clear c45b0); (try clear c48); (try clear c48b0); (try clear c48b1); (try clear c49); (try clear c49b0); (try clear c50); (try clear c56); (try clear c57); (try clear c61); (try clear p64); (try clear c67); (try clear c68); (try clear c72); (try clear c78); (try clear c79); (try clear c83); (try clear hcz51_0); (try clear hcz51_1); (try clear hcz51_2); (try clear hcz51_3); (try clear hcz51_4); (try clear hcz58_0); (try clear hcz58_1); (try clear hcz58_2); (try clear hcz58_3); (try clear hcz58_4); (try clear hcz58_5); (try clear hcz58_6); (try clear hcz62_0); (try clear hcz62_1); (try clear hcz62_2); (try clear hcz62_3); (try clear hcz62_4); (try clear hcz69_0); (try clear hcz69_1); (try clear hcz69_2); (try clear hcz69_3); (try clear hcz69_4); (try clear hcz69_5); (try clear hcz69_6); (try clear hcz73_0); (try clear hcz73_1); (try clear hcz73_2); (try clear hcz73_3); (try clear hcz73_4); (try clear hcz80_0); (try clear hcz80_1); (try clear hcz80_2); (try clear hcz80_3); (try clear hcz80_4); (try clear hcz80_5); (try clear hcz80_6); (try clear hcz84_0); (try clear hcz84_1); (try clear hcz84_2); (try clear hcz84_3); (try clear hcz84_4); (try clear hfz51_0); (try clear hfz51_1); (try clear hfz51_2); (try clear hfz51_3); (try clear hfz51_4); (try clear hfz58_0); (try clear hfz58_1); (try clear hfz58_2); (try clear hfz58_3); (try clear hfz58_4); (try clear hfz58_5); (try clear hfz58_6); (try clear hfz62_0); (try clear hfz62_1); (try clear hfz62_2); (try clear hfz62_3); (try clear hfz62_4); (try clear hfz69_0); (try clear hfz69_1); (try clear hfz69_2); (try clear hfz69_3); (try clear hfz69_4)
                  (try clear hfz69_5); (try clear hfz69_6); (try clear hfz73_0); (try clear hfz73_1); (try clear hfz73_2); (try clear hfz73_3); (try clear hfz73_4); (try clear hfz7_0); (try clear hfz7_1); (try clear hfz7_2); (try clear hfz7_3); (try clear hfz7_4); (try clear hfz80_0); (try clear hfz80_1); (try clear hfz80_2); (try clear hfz80_3); (try clear hfz80_4); (try clear hfz80_5); (try clear hfz80_6); (try clear hfz84_0); (try clear hfz84_1); (try clear hfz84_2); (try clear hfz84_3); (try clear hfz84_4); (try clear hx382_0); (try clear hx382_1); (try clear hx382_2); (try clear hx382_3); (try clear hx382_4); (try clear hx382_5); (try clear hx382_6); (try clear hx395_0); (try clear hx395_1); (try clear hx395_2); (try clear hx395_3); (try clear hx395_4); (try clear hx395_5); (try clear hx395_6); (try clear p2); (try clear p382); (try clear p395); (try clear q382); (try clear q395)
                  obtain ⟨x11_3, rfl, HA, HK3, HO_5, HO_380003, HO_380004, BK363, BK379, HB⟩ := hrel
                  cases gk with
                  | zero => exact absurd HA.out (by simp [sundiallaw03_HeaderBack.l1])
                  | succ k3 =>
                    have H := HA.out
                    clear HA
                    simp only [sundiallaw03_HeaderBack.l1] at H
                    by_cases c85 : x11_3 < (l0_4.length : Int)
                    · rw [if_pos c85] at H
                      have c85b0 : decide (x11_3 < (l0_4.length : Int)) = true := decide_eq_true c85
                      clear c85
                      by_cases c86 : 0 ≤ x11_3
                      · rw [if_pos c86] at H
                        have c86b0 : decide (0 ≤ x11_3) = true := decide_eq_true c86
                        clear c86
                        replace H := Option.bind_eq_some_iff.mp H
                        obtain ⟨t397, A870, H⟩ := H
                        replace H : ((header_TakeSection.f t397).bind fun bt400 => (if bt400.2.2.2.2.2 = 0 then (if (!(bt400.1 == ((rd_T32 l0_4 x11_3).f0)) || (!(bt400.2.1 == ((rd_T32 l0_4 x11_3).f1)) || (!(bt400.2.2.1 == ((rd_T32 l0_4 x11_3).f2)) || (!(bt400.2.2.2.1 == ((rd_T32 l0_4 x11_3).f3)) || (!(bt400.2.2.2.2.1 == ((rd_T32 l0_4 x11_3).f4))))))) = true then (some false) else (sundiallaw03_HeaderBack.l1 k3 t366 t378 (wrap64 (x11_3 + 1)) a0_0 64 (IntKind.u64.wrap (64 + (IntKind.u64.wrap (56 * (IntKind.u64.wrap ((l0_3.length : Int))))))) l0_3 l0_4 t369 t370 t371 t372 t375)) else (some false))) = some true := H
                        have A87 := Aside0.mk A870
                        clear A870
                        replace H := Option.bind_eq_some_iff.mp H
                        obtain ⟨⟨t400, t401, t402, t403, t404, t405⟩, A880, H⟩ := H
                        replace H : (if t405 = 0 then (if (!(t400 == ((rd_T32 l0_4 x11_3).f0)) || (!(t401 == ((rd_T32 l0_4 x11_3).f1)) || (!(t402 == ((rd_T32 l0_4 x11_3).f2)) || (!(t403 == ((rd_T32 l0_4 x11_3).f3)) || (!(t404 == ((rd_T32 l0_4 x11_3).f4))))))) = true then (some false) else (sundiallaw03_HeaderBack.l1 k3 t366 t378 (wrap64 (x11_3 + 1)) a0_0 64 (IntKind.u64.wrap (64 + (IntKind.u64.wrap (56 * (IntKind.u64.wrap ((l0_3.length : Int))))))) l0_3 l0_4 t369 t370 t371 t372 t375)) else (some false)) = some true := H
                        have A88 := Aside0.mk A880
                        clear A880
                        by_cases c89 : t405 = 0
                        · rw [if_pos c89] at H
                          have c89b0 : (t405 == 0) = true := beq_iff_eq.mpr c89
                          have c89b1 : (t405 != 0) = false := bne_eq_false_iff_eq.mpr c89
                          clear c89
                          by_cases c90 : (!(t400 == ((rd_T32 l0_4 x11_3).f0)) || (!(t401 == ((rd_T32 l0_4 x11_3).f1)) || (!(t402 == ((rd_T32 l0_4 x11_3).f2)) || (!(t403 == ((rd_T32 l0_4 x11_3).f3)) || (!(t404 == ((rd_T32 l0_4 x11_3).f4))))))) = true
                          · rw [if_pos c90] at H
                            exact absurd H sundiallaw03_HeaderBack.some_no
                          · rw [if_neg c90] at H
                            have c90b0 : (!(t400 == ((rd_T32 l0_4 x11_3).f0)) || (!(t401 == ((rd_T32 l0_4 x11_3).f1)) || (!(t402 == ((rd_T32 l0_4 x11_3).f2)) || (!(t403 == ((rd_T32 l0_4 x11_3).f3)) || (!(t404 == ((rd_T32 l0_4 x11_3).f4))))))) = false := by simpa using c90
                            clear c90
                            have H' := Aside0.mk H
                            clear H
                            have hnb102 := NB363_379.out
                            have hnc102 := NB379_363.out
                            have hcz103_0 : wr.cell? ⟨gb363, 0, none⟩ = some (.int .u64 a0_0) := (bC_ BK363.out 0).trans rfl
                            have hcz103_1 : wr.cell? ⟨gb363, 1, none⟩ = some (.int .u64 64) := (bC_ BK363.out 1).trans rfl
                            have hcz103_2 : wr.cell? ⟨gb363, 2, none⟩ = some (.int .u64 (IntKind.u64.wrap (64 + (IntKind.u64.wrap (56 * (IntKind.u64.wrap ((l0_3.length : Int)))))))) := (bC_ BK363.out 2).trans rfl
                            have hcz103_3 : wr.cell? ⟨gb363, 3, none⟩ = some (.slice A0_3 l0_3.length c0_3) := (bC_ BK363.out 3).trans rfl
                            have hcz103_4 : wr.cell? ⟨gb363, 4, none⟩ = some (.slice A0_4 l0_4.length c0_4) := (bC_ BK363.out 4).trans rfl
                            have hfz103_0 := bF_ BK363.out 0
                            have hfz103_1 := bF_ BK363.out 1
                            have hfz103_2 := bF_ BK363.out 2
                            have hfz103_3 := bF_ BK363.out 3
                            have hfz103_4 := bF_ BK363.out 4
                            have p396 : 0 ≤ (x11_3 : Int) := of_decide_eq_true (by first | (with_reducible assumption) | assumption)
                            have q396 : x11_3 < (l0_4.length : Int) := of_decide_eq_true (by first | (with_reducible assumption) | assumption)
                            obtain ⟨ad396, e396, hx396_0, hx396_1, hx396_2, hx396_3, hx396_4⟩ := at_T32 HR0_4.out x11_3 p396 q396
                            cases e396
                            replace hx396_0 := (HB.out.cell (World.block_lt_of_cell? w _ hx396_0)).trans hx396_0
                            replace hx396_1 := (HB.out.cell (World.block_lt_of_cell? w _ hx396_1)).trans hx396_1
                            replace hx396_2 := (HB.out.cell (World.block_lt_of_cell? w _ hx396_2)).trans hx396_2
                            replace hx396_3 := (HB.out.cell (World.block_lt_of_cell? w _ hx396_3)).trans hx396_3
                            replace hx396_4 := (HB.out.cell (World.block_lt_of_cell? w _ hx396_4)).trans hx396_4
                            replace p396 := eq_true p396
                            replace q396 := eq_true q396
                            try go_wp2_with (first | ((with_reducible refine gate_callee (f := 18) rfl ?_); refine goesL_ (some 95) rfl rfl Tryd.func18 (by kernel_rfl) rfl #[.agg #[.int .u32 ((rd_T32 l0_4 x11_3).f0), .int .u64 ((rd_T32 l0_4 x11_3).f1), .int .u64 ((rd_T32 l0_4 x11_3).f2), .int .u32 ((rd_T32 l0_4 x11_3).f3), .int .u64 ((rd_T32 l0_4 x11_3).f4)]] rfl (by (try simp only [List.map_toArray, List.map_cons, List.map_nil]); first | done | rfl | (simp only [List.length_drop, List.length_take]; rfl)) ?_; (with_reducible refine (header_Section.calls ((rd_T32 l0_4 x11_3).f0) ((rd_T32 l0_4 x11_3).f1) ((rd_T32 l0_4 x11_3).f2) ((rd_T32 l0_4 x11_3).f3) ((rd_T32 l0_4 x11_3).f4) t397 _ (Tab.below HTAB.out (by repeat (first | (with_reducible first | exact HB.out | apply bX_ | apply bW_ | apply bY_ | refine bS_ ?_ GE363.out | refine bS_ ?_ GE379.out) | exact HB.out))) A87.out).mono ?_); rintro e w104 ⟨v398, rfl, ho0, hb⟩; refine ⟨_, rfl, ?_⟩; have n0_ := Aside0.mk (Kd.R_elder' (by (with_reducible repeat (first | apply Kd.R_alloc | apply Kd.R_drewN | apply Kd.R_drew)); exact HO_5.out) (by first | exact Kd.R_base ho0 | exact Kd.R_base (Kd.S_R ho0) | exact Kd.R_base ho0) hb); have n1_ := Aside0.mk (Kd.R_below (by (with_reducible repeat (first | apply Kd.R_alloc | apply Kd.R_drewN | apply Kd.R_drew)); exact HO_380003.out) hb); have n2_ := Aside0.mk (Kd.R_below (by (with_reducible repeat (first | apply Kd.R_alloc | apply Kd.R_drewN | apply Kd.R_drew)); exact HO_380004.out) hb); have n3_ := Aside0.mk (Kd.R_lower (Kd.R_new' ho0 (Kd.R_lt (by (with_reducible repeat (first | apply Kd.R_alloc | apply Kd.R_drewN | apply Kd.R_drew)); exact HO_5.out))) (below_size (by repeat (first | (with_reducible first | exact HB.out | apply bX_ | apply bW_ | apply bY_ | refine bS_ ?_ GE363.out | refine bS_ ?_ GE379.out) | exact HB.out)))); have n4_ := Aside0.mk (blk_below (g := gb363) (o := .cells #[.int .u64 a0_0, .int .u64 64, .int .u64 (IntKind.u64.wrap (64 + (IntKind.u64.wrap (56 * (IntKind.u64.wrap ((l0_3.length : Int))))))), .slice A0_3 l0_3.length c0_3, .slice (some ad396) l0_4.length c0_4] 27 (0, 0)) (by (with_reducible repeat (first | refine bN_ ?_ _ | refine bD_ ?_ | refine bA_ ?_ _)); exact BK363.out) hb); have n5_ := Aside0.mk (blk_below (g := gb379) (o := .cells #[.int .u64 t369, .int .u64 t370, .int .u64 t371, .slice Ao23 t372.length co23, .slice Ao24 t375.length co24] 27 (0, 0)) (by (with_reducible repeat (first | refine bN_ ?_ _ | refine bD_ ?_ | refine bA_ ?_ _)); exact BK379.out) hb); have n6_ := Aside0.mk (below_step (by repeat (first | (with_reducible first | exact HB.out | apply bX_ | apply bW_ | apply bY_ | refine bS_ ?_ GE363.out | refine bS_ ?_ GE379.out) | exact HB.out)) hb); clear HO_5; clear HO_380003; clear HO_380004; clear BK363; clear BK379; clear HB; have HO_5 := n0_; have HO_380003 := n1_; have HO_380004 := n2_; have HO399 := n3_; have BK363 := n4_; have BK379 := n5_; have HB := n6_; clear n0_ n1_ n2_ n3_ n4_ n5_ n6_; (try clear hb); (try clear hb2); (try clear hk); (try clear hi); (try clear ho0); obtain ⟨Ao105, co105, eo105⟩ := Kd.R_slice HO399.out; subst eo105) | ((with_reducible refine gate_callee (f := 22) rfl ?_); refine goesL_ (some 96) rfl rfl Tryd.func22 (by kernel_rfl) rfl #[.slice Ao105 t397.length co105] rfl (by (try simp only [List.map_toArray, List.map_cons, List.map_nil]); first | done | rfl | (simp only [List.length_drop, List.length_take]; rfl)) ?_; (with_reducible refine (header_TakeSection.calls _ _ t397 t400 t401 t402 t403 t404 t405 _ ?side1 ?side2 (Tab.below HTAB.out (by repeat (first | (with_reducible first | exact HB.out | apply bX_ | apply bW_ | apply bY_ | refine bS_ ?_ GE363.out | refine bS_ ?_ GE379.out) | exact HB.out))) A88.out).mono ?_); (case side1 => repeat (first | exact (Kd.R_reads' HO399.out).2.2 | (with_reducible refine Kd.C_alloc ?_ _) | (with_reducible refine Kd.C_drewN ?_ _) | (with_reducible refine Kd.C_drew ?_))); (case side2 => exact (Kd.R_reads' HO399.out).2.1); rintro e w106 ⟨rfl, hb⟩; refine ⟨_, rfl, ?_⟩; have n0_ := Aside0.mk (Kd.R_below (by (with_reducible repeat (first | apply Kd.R_alloc | apply Kd.R_drewN | apply Kd.R_drew)); exact HO_5.out) hb); have n1_ := Aside0.mk (Kd.R_below (by (with_reducible repeat (first | apply Kd.R_alloc | apply Kd.R_drewN | apply Kd.R_drew)); exact HO_380003.out) hb); have n2_ := Aside0.mk (Kd.R_below (by (with_reducible repeat (first | apply Kd.R_alloc | apply Kd.R_drewN | apply Kd.R_drew)); exact HO_380004.out) hb); have n3_ := Aside0.mk (Kd.R_below (by (with_reducible repeat (first | apply Kd.R_alloc | apply Kd.R_drewN | apply Kd.R_drew)); exact HO399.out) hb); have n4_ := Aside0.mk (blk_below (g := gb363) (o := .cells #[.int .u64 a0_0, .int .u64 64, .int .u64 (IntKind.u64.wrap (64 + (IntKind.u64.wrap (56 * (IntKind.u64.wrap ((l0_3.length : Int))))))), .slice A0_3 l0_3.length c0_3, .slice (some ad396) l0_4.length c0_4] 27 (0, 0)) (by (with_reducible repeat (first | refine bN_ ?_ _ | refine bD_ ?_ | refine bA_ ?_ _)); exact BK363.out) hb); have n5_ := Aside0.mk (blk_below (g := gb379) (o := .cells #[.int .u64 t369, .int .u64 t370, .int .u64 t371, .slice Ao23 t372.length co23, .slice Ao24 t375.length co24] 27 (0, 0)) (by (with_reducible repeat (first | refine bN_ ?_ _ | refine bD_ ?_ | refine bA_ ?_ _)); exact BK379.out) hb); have n6_ := Aside0.mk (below_step (by repeat (first | (with_reducible first | exact HB.out | apply bX_ | apply bW_ | apply bY_ | refine bS_ ?_ GE363.out | refine bS_ ?_ GE379.out) | exact HB.out)) hb); clear HO_5; clear HO_380003; clear HO_380004; clear HO399; clear BK363; clear BK379; clear HB; have HO_5 := n0_; have HO_380003 := n1_; have HO_380004 := n2_; have HO399 := n3_; have BK363 := n4_; have BK379 := n5_; have HB := n6_; clear n0_ n1_ n2_ n3_ n4_ n5_ n6_; (try clear hb); (try clear hb2); (try clear hk); (try clear hi)) | ((with_reducible refine gate_dst (N := 12) rfl ?_); (try (refine gate_guard (by rfl) ?_; dsimp only)); refine box_event ?hg (N := 12) ?hd (cs := #[.int .u32 0, .int .u64 0, .int .u64 0, .int .u32 0, .int .u64 0]) (t := 32) ?hr ?_; (case hd => rfl); (case hg => rfl); (case hr => first | (go_simp; done) | (go_simp; rfl)); intro gb406 hg w107 hbox hb; have n0_ := Aside0.mk (Kd.R_below (by (with_reducible repeat (first | apply Kd.R_alloc | apply Kd.R_drewN | apply Kd.R_drew)); exact HO_5.out) hb); have n1_ := Aside0.mk (Kd.R_below (by (with_reducible repeat (first | apply Kd.R_alloc | apply Kd.R_drewN | apply Kd.R_drew)); exact HO_380003.out) hb); have n2_ := Aside0.mk (Kd.R_below (Kd.R_elderB (by (with_reducible repeat (first | apply Kd.R_alloc | apply Kd.R_drewN | apply Kd.R_drew)); exact HO_380004.out) gb406 (Nat.le_of_eq hg.symm)) hb); have n3_ := Aside0.mk (Kd.R_below (by (with_reducible repeat (first | apply Kd.R_alloc | apply Kd.R_drewN | apply Kd.R_drew)); exact HO399.out) hb); have n4_ := Aside0.mk (blk_below (g := gb363) (o := .cells #[.int .u64 a0_0, .int .u64 64, .int .u64 (IntKind.u64.wrap (64 + (IntKind.u64.wrap (56 * (IntKind.u64.wrap ((l0_3.length : Int))))))), .slice A0_3 l0_3.length c0_3, .slice (some ad396) l0_4.length c0_4] 27 (0, 0)) (by (with_reducible repeat (first | refine bN_ ?_ _ | refine bD_ ?_ | refine bA_ ?_ _)); exact BK363.out) hb); have n5_ := Aside0.mk (blk_below (g := gb379) (o := .cells #[.int .u64 t369, .int .u64 t370, .int .u64 t371, .slice Ao23 t372.length co23, .slice Ao24 t375.length co24] 27 (0, 0)) (by (with_reducible repeat (first | refine bN_ ?_ _ | refine bD_ ?_ | refine bA_ ?_ _)); exact BK379.out) hb); have n6_ := Aside0.mk (below_step (by repeat (first | (with_reducible first | exact HB.out | apply bX_ | apply bW_ | apply bY_ | refine bS_ ?_ GE363.out | refine bS_ ?_ GE379.out) | exact HB.out)) hb); have n7_ := Aside0.mk (hbox); have n8_ := Aside0.mk ((by rw [hg]; exact (below_size (by repeat (first | (with_reducible first | exact HB.out | apply bX_ | apply bW_ | apply bY_ | refine bS_ ?_ GE363.out | refine bS_ ?_ GE379.out) | exact HB.out))) : w.heap.size ≤ gb406)); have n9_ := Aside0.mk ((by rw [hg]; exact (below_size (by repeat (first | (with_reducible first | exact HB.out | apply bX_ | apply bW_ | apply bY_ | refine bS_ ?_ GE363.out | refine bS_ ?_ GE379.out) | exact HB.out))) : w.heap.size ≤ gb406)); have n10_ := Aside0.mk ((by rw [hg]; exact Nat.ne_of_lt (blk_lt (g := gb363) (o := .cells #[.int .u64 a0_0, .int .u64 64, .int .u64 (IntKind.u64.wrap (64 + (IntKind.u64.wrap (56 * (IntKind.u64.wrap ((l0_3.length : Int))))))), .slice A0_3 l0_3.length c0_3, .slice (some ad396) l0_4.length c0_4] 27 (0, 0)) (by (with_reducible repeat (first | refine bN_ ?_ _ | refine bD_ ?_ | refine bA_ ?_ _)); exact BK363.out)) : gb363 ≠ gb406)); have n11_ := Aside0.mk ((by rw [hg]; exact Nat.ne_of_gt (blk_lt (g := gb363) (o := .cells #[.int .u64 a0_0, .int .u64 64, .int .u64 (IntKind.u64.wrap (64 + (IntKind.u64.wrap (56 * (IntKind.u64.wrap ((l0_3.length : Int))))))), .slice A0_3 l0_3.length c0_3, .slice (some ad396) l0_4.length c0_4] 27 (0, 0)) (by (with_reducible repeat (first | refine bN_ ?_ _ | refine bD_ ?_ | refine bA_ ?_ _)); exact BK363.out)) : gb406 ≠ gb363)); have n12_ := Aside0.mk ((by rw [hg]; exact Nat.ne_of_lt (blk_lt (g := gb379) (o := .cells #[.int .u64 t369, .int .u64 t370, .int .u64 t371, .slice Ao23 t372.length co23, .slice Ao24 t375.length co24] 27 (0, 0)) (by (with_reducible repeat (first | refine bN_ ?_ _ | refine bD_ ?_ | refine bA_ ?_ _)); exact BK379.out)) : gb379 ≠ gb406)); have n13_ := Aside0.mk ((by rw [hg]; exact Nat.ne_of_gt (blk_lt (g := gb379) (o := .cells #[.int .u64 t369, .int .u64 t370, .int .u64 t371, .slice Ao23 t372.length co23, .slice Ao24 t375.length co24] 27 (0, 0)) (by (with_reducible repeat (first | refine bN_ ?_ _ | refine bD_ ?_ | refine bA_ ?_ _)); exact BK379.out)) : gb406 ≠ gb379)); clear HO_5; clear HO_380003; clear HO_380004; clear HO399; clear BK363; clear BK379; clear HB; have HO_5 := n0_; have HO_380003 := n1_; have HO_380004 := n2_; have HO399 := n3_; have BK363 := n4_; have BK379 := n5_; have HB := n6_; have BK406 := n7_; have GW406 := n8_; have GE406 := n9_; have NB363_406 := n10_; have NB406_363 := n11_; have NB379_406 := n12_; have NB406_379 := n13_; clear n0_ n1_ n2_ n3_ n4_ n5_ n6_ n7_ n8_ n9_ n10_ n11_ n12_ n13_; clear hb hbox hg; have hnb108 := NB406_363.out; have hnc108 := NB363_406.out; have hnb109 := NB406_379.out; have hnc109 := NB379_406.out; have hcz110_0 : w107.cell? ⟨gb406, 0, none⟩ = some (.int .u32 0) := (bC_ BK406.out 0).trans rfl; have hcz110_1 : w107.cell? ⟨gb406, 1, none⟩ = some (.int .u64 0) := (bC_ BK406.out 1).trans rfl; have hcz110_2 : w107.cell? ⟨gb406, 2, none⟩ = some (.int .u64 0) := (bC_ BK406.out 2).trans rfl; have hcz110_3 : w107.cell? ⟨gb406, 3, none⟩ = some (.int .u32 0) := (bC_ BK406.out 3).trans rfl; have hcz110_4 : w107.cell? ⟨gb406, 4, none⟩ = some (.int .u64 0) := (bC_ BK406.out 4).trans rfl; have hfz110_0 := bF_ BK406.out 0; have hfz110_1 := bF_ BK406.out 1; have hfz110_2 := bF_ BK406.out 2; have hfz110_3 := bF_ BK406.out 3; have hfz110_4 := bF_ BK406.out 4))
                            have n0_ : Aside0 (Kd.R (Kd.int .u8) 5 (((((w107.setCell ⟨gb406, 0, none⟩ (.int .u32 t400)).setCell ⟨gb406, 1, none⟩ (.int .u64 t401)).setCell ⟨gb406, 2, none⟩ (.int .u64 t402)).setCell ⟨gb406, 3, none⟩ (.int .u32 t403)).setCell ⟨gb406, 4, none⟩ (.int .u64 t404)) w.heap.size (fun k_ => some k_ ≠ (.slice Ao105 t397.length co105 : Value).ownBlock) (.slice Ao18 t366.length co18) t366) := ⟨by (with_reducible repeat (first | apply Kd.R_alloc | apply Kd.R_drewN | apply Kd.R_drew)); exact Kd.R_mono (Kd.R_far (p := ⟨gb406, 4, none⟩) (Kd.R_far (p := ⟨gb406, 3, none⟩) (Kd.R_far (p := ⟨gb406, 2, none⟩) (Kd.R_far (p := ⟨gb406, 1, none⟩) (Kd.R_far (p := ⟨gb406, 0, none⟩) (Kd.R_types HO_5.out BK406.out (by decide)) (fun _ hk => hk.2) (.int .u32 t400)) (fun _ hk => hk.2) (.int .u64 t401)) (fun _ hk => hk.2) (.int .u64 t402)) (fun _ hk => hk.2) (.int .u32 t403)) (fun _ hk => hk.2) (.int .u64 t404)) (fun _ hk => hk.1.2)⟩
                            have n1_ : Aside0 (Kd.R k30 30 (((((w107.setCell ⟨gb406, 0, none⟩ (.int .u32 t400)).setCell ⟨gb406, 1, none⟩ (.int .u64 t401)).setCell ⟨gb406, 2, none⟩ (.int .u64 t402)).setCell ⟨gb406, 3, none⟩ (.int .u32 t403)).setCell ⟨gb406, 4, none⟩ (.int .u64 t404)) w.heap.size (fun _ => True) (.slice Ao23 t372.length co23) t372) := ⟨by (with_reducible repeat (first | apply Kd.R_alloc | apply Kd.R_drewN | apply Kd.R_drew)); exact Kd.R_mono (Kd.R_far (p := ⟨gb406, 4, none⟩) (Kd.R_far (p := ⟨gb406, 3, none⟩) (Kd.R_far (p := ⟨gb406, 2, none⟩) (Kd.R_far (p := ⟨gb406, 1, none⟩) (Kd.R_far (p := ⟨gb406, 0, none⟩) (Kd.R_types HO_380003.out BK406.out (by decide)) (fun _ hk => hk.2) (.int .u32 t400)) (fun _ hk => hk.2) (.int .u64 t401)) (fun _ hk => hk.2) (.int .u64 t402)) (fun _ hk => hk.2) (.int .u32 t403)) (fun _ hk => hk.2) (.int .u64 t404)) (fun _ hk => trivial)⟩
                            have n2_ : Aside0 (Kd.R k32 32 (((((w107.setCell ⟨gb406, 0, none⟩ (.int .u32 t400)).setCell ⟨gb406, 1, none⟩ (.int .u64 t401)).setCell ⟨gb406, 2, none⟩ (.int .u64 t402)).setCell ⟨gb406, 3, none⟩ (.int .u32 t403)).setCell ⟨gb406, 4, none⟩ (.int .u64 t404)) w.heap.size (fun k_ => k_ ≠ gb406) (.slice Ao24 t375.length co24) t375) := ⟨by (with_reducible repeat (first | apply Kd.R_alloc | apply Kd.R_drewN | apply Kd.R_drew)); exact Kd.R_mono (Kd.R_far (p := ⟨gb406, 4, none⟩) (Kd.R_far (p := ⟨gb406, 3, none⟩) (Kd.R_far (p := ⟨gb406, 2, none⟩) (Kd.R_far (p := ⟨gb406, 1, none⟩) (Kd.R_far (p := ⟨gb406, 0, none⟩) (Kd.R_mono HO_380004.out (fun k_ hk => (⟨hk, hk.2⟩ : _ ∧ k_ ≠ gb406))) (fun _ hk => hk.2) (.int .u32 t400)) (fun _ hk => hk.2) (.int .u64 t401)) (fun _ hk => hk.2) (.int .u64 t402)) (fun _ hk => hk.2) (.int .u32 t403)) (fun _ hk => hk.2) (.int .u64 t404)) (fun _ hk => hk.1.2)⟩
                            have n3_ : Aside0 (Kd.R (Kd.int .u8) 5 (((((w107.setCell ⟨gb406, 0, none⟩ (.int .u32 t400)).setCell ⟨gb406, 1, none⟩ (.int .u64 t401)).setCell ⟨gb406, 2, none⟩ (.int .u64 t402)).setCell ⟨gb406, 3, none⟩ (.int .u32 t403)).setCell ⟨gb406, 4, none⟩ (.int .u64 t404)) w.heap.size (fun k_ => some k_ ≠ (.slice Ao18 t366.length co18 : Value).ownBlock) (.slice Ao105 t397.length co105) t397) := ⟨by (with_reducible repeat (first | apply Kd.R_alloc | apply Kd.R_drewN | apply Kd.R_drew)); exact Kd.R_mono (Kd.R_far (p := ⟨gb406, 4, none⟩) (Kd.R_far (p := ⟨gb406, 3, none⟩) (Kd.R_far (p := ⟨gb406, 2, none⟩) (Kd.R_far (p := ⟨gb406, 1, none⟩) (Kd.R_far (p := ⟨gb406, 0, none⟩) (Kd.R_types HO399.out BK406.out (by decide)) (fun _ hk => hk.2) (.int .u32 t400)) (fun _ hk => hk.2) (.int .u64 t401)) (fun _ hk => hk.2) (.int .u64 t402)) (fun _ hk => hk.2) (.int .u32 t403)) (fun _ hk => hk.2) (.int .u64 t404)) (fun _ hk => hk.1.2)⟩
                            have n4_ : Aside0 ((((((w107.setCell ⟨gb406, 0, none⟩ (.int .u32 t400)).setCell ⟨gb406, 1, none⟩ (.int .u64 t401)).setCell ⟨gb406, 2, none⟩ (.int .u64 t402)).setCell ⟨gb406, 3, none⟩ (.int .u32 t403)).setCell ⟨gb406, 4, none⟩ (.int .u64 t404)).heap[gb363]? = some (.cells #[.int .u64 a0_0, .int .u64 64, .int .u64 (IntKind.u64.wrap (64 + (IntKind.u64.wrap (56 * (IntKind.u64.wrap ((l0_3.length : Int))))))), .slice A0_3 l0_3.length c0_3, .slice (some ad396) l0_4.length c0_4] 27 (0, 0))) := ⟨by (with_reducible repeat (first | refine bN_ ?_ _ | refine bD_ ?_ | refine bA_ ?_ _)); refine blk_far ?_ NB363_406.out _; (with_reducible repeat (first | refine bN_ ?_ _ | refine bD_ ?_ | refine bA_ ?_ _)); refine blk_far ?_ NB363_406.out _; (with_reducible repeat (first | refine bN_ ?_ _ | refine bD_ ?_ | refine bA_ ?_ _)); refine blk_far ?_ NB363_406.out _; (with_reducible repeat (first | refine bN_ ?_ _ | refine bD_ ?_ | refine bA_ ?_ _)); refine blk_far ?_ NB363_406.out _; (with_reducible repeat (first | refine bN_ ?_ _ | refine bD_ ?_ | refine bA_ ?_ _)); refine blk_far ?_ NB363_406.out _; (with_reducible repeat (first | refine bN_ ?_ _ | refine bD_ ?_ | refine bA_ ?_ _)); exact BK363.out⟩
                            have n5_ : Aside0 ((((((w107.setCell ⟨gb406, 0, none⟩ (.int .u32 t400)).setCell ⟨gb406, 1, none⟩ (.int .u64 t401)).setCell ⟨gb406, 2, none⟩ (.int .u64 t402)).setCell ⟨gb406, 3, none⟩ (.int .u32 t403)).setCell ⟨gb406, 4, none⟩ (.int .u64 t404)).heap[gb379]? = some (.cells #[.int .u64 t369, .int .u64 t370, .int .u64 t371, .slice Ao23 t372.length co23, .slice Ao24 t375.length co24] 27 (0, 0))) := ⟨by (with_reducible repeat (first | refine bN_ ?_ _ | refine bD_ ?_ | refine bA_ ?_ _)); refine blk_far ?_ NB379_406.out _; (with_reducible repeat (first | refine bN_ ?_ _ | refine bD_ ?_ | refine bA_ ?_ _)); refine blk_far ?_ NB379_406.out _; (with_reducible repeat (first | refine bN_ ?_ _ | refine bD_ ?_ | refine bA_ ?_ _)); refine blk_far ?_ NB379_406.out _; (with_reducible repeat (first | refine bN_ ?_ _ | refine bD_ ?_ | refine bA_ ?_ _)); refine blk_far ?_ NB379_406.out _; (with_reducible repeat (first | refine bN_ ?_ _ | refine bD_ ?_ | refine bA_ ?_ _)); refine blk_far ?_ NB379_406.out _; (with_reducible repeat (first | refine bN_ ?_ _ | refine bD_ ?_ | refine bA_ ?_ _)); exact BK379.out⟩
                            have n6_ : Aside0 ((((((w107.setCell ⟨gb406, 0, none⟩ (.int .u32 t400)).setCell ⟨gb406, 1, none⟩ (.int .u64 t401)).setCell ⟨gb406, 2, none⟩ (.int .u64 t402)).setCell ⟨gb406, 3, none⟩ (.int .u32 t403)).setCell ⟨gb406, 4, none⟩ (.int .u64 t404)).heap[gb406]? = some (.cells #[.int .u32 t400, .int .u64 t401, .int .u64 t402, .int .u32 t403, .int .u64 t404] 32 (0, 0))) := ⟨by (with_reducible repeat (first | refine bN_ ?_ _ | refine bD_ ?_ | refine bA_ ?_ _)); refine blk_put (cs := #[.int .u32 t400, .int .u64 t401, .int .u64 t402, .int .u32 t403, .int .u64 0]) ?_ 4 _ rfl; (with_reducible repeat (first | refine bN_ ?_ _ | refine bD_ ?_ | refine bA_ ?_ _)); refine blk_put (cs := #[.int .u32 t400, .int .u64 t401, .int .u64 t402, .int .u32 0, .int .u64 0]) ?_ 3 _ rfl; (with_reducible repeat (first | refine bN_ ?_ _ | refine bD_ ?_ | refine bA_ ?_ _)); refine blk_put (cs := #[.int .u32 t400, .int .u64 t401, .int .u64 0, .int .u32 0, .int .u64 0]) ?_ 2 _ rfl; (with_reducible repeat (first | refine bN_ ?_ _ | refine bD_ ?_ | refine bA_ ?_ _)); refine blk_put (cs := #[.int .u32 t400, .int .u64 0, .int .u64 0, .int .u32 0, .int .u64 0]) ?_ 1 _ rfl; (with_reducible repeat (first | refine bN_ ?_ _ | refine bD_ ?_ | refine bA_ ?_ _)); refine blk_put (cs := #[.int .u32 0, .int .u64 0, .int .u64 0, .int .u32 0, .int .u64 0]) ?_ 0 _ rfl; (with_reducible repeat (first | refine bN_ ?_ _ | refine bD_ ?_ | refine bA_ ?_ _)); exact BK406.out⟩
                            have n7_ : Aside0 (Below w.heap.size w (((((w107.setCell ⟨gb406, 0, none⟩ (.int .u32 t400)).setCell ⟨gb406, 1, none⟩ (.int .u64 t401)).setCell ⟨gb406, 2, none⟩ (.int .u64 t402)).setCell ⟨gb406, 3, none⟩ (.int .u32 t403)).setCell ⟨gb406, 4, none⟩ (.int .u64 t404))) := ⟨by repeat (first | (with_reducible first | exact HB.out | apply bX_ | apply bW_ | apply bY_ | refine bS_ ?_ GE363.out | refine bS_ ?_ GE379.out | refine bS_ ?_ GE406.out) | exact HB.out)⟩
                            (try clear HO_5)
                            (try clear HO_380003)
                            (try clear HO_380004)
                            (try clear HO399)
                            (try clear BK363)
                            (try clear BK379)
                            (try clear BK406)
                            (try clear HB)
                            generalize (((((w107.setCell ⟨gb406, 0, none⟩ (.int .u32 t400)).setCell ⟨gb406, 1, none⟩ (.int .u64 t401)).setCell ⟨gb406, 2, none⟩ (.int .u64 t402)).setCell ⟨gb406, 3, none⟩ (.int .u32 t403)).setCell ⟨gb406, 4, none⟩ (.int .u64 t404)) = w111 at n0_ n1_ n2_ n3_ n4_ n5_ n6_ n7_ ⊢
                            have HO_5 := n0_
                            have HO_380003 := n1_
                            have HO_380004 := n2_
                            have HO399 := n3_
                            have BK363 := n4_
                            have BK379 := n5_
                            have BK406 := n6_
                            have HB := n7_
                            clear n0_ n1_ n2_ n3_ n4_ n5_ n6_ n7_
                            have n0_ := Aside0.mk (Kd.R_drew HO_5.out)
                            have n1_ := Aside0.mk (Kd.R_drew HO_380003.out)
                            have n2_ := Aside0.mk (Kd.R_drew HO_380004.out)
                            have n3_ := Aside0.mk (Kd.R_drew HO399.out)
                            have n4_ := Aside0.mk (bD_ BK363.out)
                            have n5_ := Aside0.mk (bD_ BK379.out)
                            have n6_ := Aside0.mk (bD_ BK406.out)
                            have n7_ := Aside0.mk (bY_ HB.out)
                            clear HO_5
                            clear HO_380003
                            clear HO_380004
                            clear HO399
                            clear BK363
                            clear BK379
                            clear BK406
                            clear HB
                            have HO_5 := n0_
                            have HO_380003 := n1_
                            have HO_380004 := n2_
                            have HO399 := n3_
                            have BK363 := n4_
                            have BK379 := n5_
                            have BK406 := n6_
                            have HB := n7_
                            clear n0_ n1_ n2_ n3_ n4_ n5_ n6_ n7_
                            have p407 : 0 ≤ (x11_3 : Int) := of_decide_eq_true (by first | (with_reducible assumption) | assumption)
                            have q407 : x11_3 < (l0_4.length : Int) := of_decide_eq_true (by first | (with_reducible assumption) | assumption)
                            obtain ⟨ad407, e407, hx407_0, hx407_1, hx407_2, hx407_3, hx407_4⟩ := at_T32 HR0_4.out x11_3 p407 q407
                            have hw407_4 := hx407_4
                            have hw407_3 := hx407_3
                            have hw407_2 := hx407_2
                            have hw407_1 := hx407_1
                            have hw407_0 := hx407_0
                            obtain rfl : ad396 = ad407 := (by injection e407)
                            replace hx407_0 := (HB.out.cell (World.block_lt_of_cell? w _ hx407_0)).trans hx407_0
                            replace hx407_1 := (HB.out.cell (World.block_lt_of_cell? w _ hx407_1)).trans hx407_1
                            replace hx407_2 := (HB.out.cell (World.block_lt_of_cell? w _ hx407_2)).trans hx407_2
                            replace hx407_3 := (HB.out.cell (World.block_lt_of_cell? w _ hx407_3)).trans hx407_3
                            replace hx407_4 := (HB.out.cell (World.block_lt_of_cell? w _ hx407_4)).trans hx407_4
                            replace p407 := eq_true p407
                            replace q407 := eq_true q407
                            refine start_ (n := 11) (S := fun w' => w'.cell? ⟨gb406, 0, none⟩ = some (.int .u32 t400) ∧ w'.cell? ⟨gb406, 1, none⟩ = some (.int .u64 t401) ∧ w'.cell? ⟨gb406, 2, none⟩ = some (.int .u64 t402) ∧ w'.cell? ⟨gb406, 3, none⟩ = some (.int .u32 t403) ∧ w'.cell? ⟨gb406, 4, none⟩ = some (.int .u64 t404) ∧ w'.cell? ⟨gb363, 0, none⟩ = some (.int .u64 a0_0) ∧ w'.cell? ⟨gb363, 1, none⟩ = some (.int .u64 64) ∧ w'.cell? ⟨gb363, 2, none⟩ = some (.int .u64 (IntKind.u64.wrap (64 + (IntKind.u64.wrap (56 * (IntKind.u64.wrap ((l0_3.length : Int)))))))) ∧ w'.cell? ⟨gb363, 3, none⟩ = some (.slice A0_3 l0_3.length c0_3) ∧ w'.cell? ⟨gb363, 4, none⟩ = some (.slice (some ad396) l0_4.length c0_4) ∧ w'.cell? (ad396.add ((x11_3).toNat * 5)) = some (.int .u32 ((rd_T32 l0_4 x11_3).f0)) ∧ w'.cell? ⟨(ad396.add ((x11_3).toNat * 5)).block, (ad396.add ((x11_3).toNat * 5)).off + 1, none⟩ = some (.int .u64 ((rd_T32 l0_4 x11_3).f1)) ∧ w'.cell? ⟨(ad396.add ((x11_3).toNat * 5)).block, (ad396.add ((x11_3).toNat * 5)).off + 2, none⟩ = some (.int .u64 ((rd_T32 l0_4 x11_3).f2)) ∧ w'.cell? ⟨(ad396.add ((x11_3).toNat * 5)).block, (ad396.add ((x11_3).toNat * 5)).off + 3, none⟩ = some (.int .u32 ((rd_T32 l0_4 x11_3).f3)) ∧ w'.cell? ⟨(ad396.add ((x11_3).toNat * 5)).block, (ad396.add ((x11_3).toNat * 5)).off + 4, none⟩ = some (.int .u64 ((rd_T32 l0_4 x11_3).f4))) (ds := []) #[false, false, false, false, false, false, false, false, false, false, false] (by kernel_rfl) rfl rfl ⟨(bC_ BK406.out 0).trans rfl, (bC_ BK406.out 1).trans rfl, (bC_ BK406.out 2).trans rfl, (bC_ BK406.out 3).trans rfl, (bC_ BK406.out 4).trans rfl, (bC_ BK363.out 0).trans rfl, (bC_ BK363.out 1).trans rfl, (bC_ BK363.out 2).trans rfl, (bC_ BK363.out 3).trans rfl, (bC_ BK363.out 4).trans rfl, ((HB.out.cell (World.block_lt_of_cell? w _ hw407_0)).trans hw407_0), ((HB.out.cell (World.block_lt_of_cell? w _ hw407_1)).trans hw407_1), ((HB.out.cell (World.block_lt_of_cell? w _ hw407_2)).trans hw407_2), ((HB.out.cell (World.block_lt_of_cell? w _ hw407_3)).trans hw407_3), ((HB.out.cell (World.block_lt_of_cell? w _ hw407_4)).trans hw407_4)⟩ (fun hHeld => ?_); refine with_tabW sundiallaw03_HeaderBack.tab18 sundiallaw03_HeaderBack.bits18 (fun HT_ HW_ => ?_)
                            generalize w111.drew = w112 at HO_5 HO_380003 HO_380004 HO399 BK363 BK379 BK406 HB hx407_0 hx407_1 hx407_2 hx407_3 hx407_4 hHeld ⊢
                            refine pure_ (i := 0) (N := some 99) (v := ?_) (a' := ?_) #[true, false, false, false, false, false, false, false, false, false, false] rfl rfl (any_of HT_.out (by kernel_rfl)) (fun _ _ _ h => h) (Or.inl ⟨by rfl, ?_⟩) ?_ ?_
                            rotate_left
                            · intro w'
                              go_simp
                              with_reducible rfl
                            rotate_left
                            · simp only [Act.put, List.setIfInBounds_toArray, List.set_cons_zero, List.set_cons_succ, i64_w, i32_w]
                              rfl
                            refine pure_ (i := 1) (N := some 100) (v := ?_) (a' := ?_) #[true, true, false, false, false, false, false, false, false, false, false] rfl rfl (any_of HT_.out (by kernel_rfl)) (fun _ _ _ h => h) (Or.inl ⟨by rfl, ?_⟩) ?_ ?_
                            rotate_left
                            · intro w'
                              go_simp
                              with_reducible rfl
                            rotate_left
                            · simp only [Act.put, List.setIfInBounds_toArray, List.set_cons_zero, List.set_cons_succ, i64_w, i32_w]
                              rfl
                            refine pure_ (i := 2) (N := some 101) (v := ?_) (a' := ?_) #[true, true, true, false, false, false, false, false, false, false, false] rfl rfl (any_of HT_.out (by kernel_rfl)) (fun _ _ _ h => h) (Or.inl ⟨by rfl, ?_⟩) ?_ ?_
                            rotate_left
                            · intro w'
                              go_simp
                              with_reducible rfl
                            rotate_left
                            · simp only [Act.put, List.setIfInBounds_toArray, List.set_cons_zero, List.set_cons_succ, i64_w, i32_w]
                              rfl
                            refine pure_ (i := 4) (N := some 103) (v := ?_) (a' := ?_) #[true, true, true, false, true, false, false, false, false, false, false] rfl rfl (any_of HT_.out (by kernel_rfl)) (fun _ _ _ h => h) (Or.inl ⟨by rfl, ?_⟩) ?_ ?_
                            rotate_left
                            · intro w'
                              go_simp
                              with_reducible rfl
                            rotate_left
                            · simp only [Act.put, List.setIfInBounds_toArray, List.set_cons_zero, List.set_cons_succ, i64_w, i32_w]
                              rfl
                            refine pure_ (i := 6) (N := some 105) (v := ?_) (a' := ?_) #[true, true, true, false, true, false, true, false, false, false, false] rfl rfl (any_of HT_.out (by kernel_rfl)) (fun _ _ _ h => h) (Or.inl ⟨by rfl, ?_⟩) ?_ ?_
                            rotate_left
                            · intro w'
                              go_simp
                              with_reducible rfl
                            rotate_left
                            · simp only [Act.put, List.setIfInBounds_toArray, List.set_cons_zero, List.set_cons_succ, i64_w, i32_w]
                              rfl
                            refine take_ (i := 3) (N := some 102) (v := ?_) (a' := ?_) #[true, true, true, true, true, false, true, false, false, false, false] rfl rfl (take_ofW HT_.out HW_.out (by kernel_rfl)) (fun _ _ _ h => h) (Or.inl ⟨by rfl, ?_⟩) hHeld ?_ ?_
                            rotate_left
                            · rintro w' ⟨s0, s1, s2, s3, s4, s5, s6, s7, s8, s9, s10, s11, s12, s13, s14⟩
                              go_simp
                              with_reducible rfl
                            rotate_left
                            · simp only [Act.put, List.setIfInBounds_toArray, List.set_cons_zero, List.set_cons_succ, i64_w, i32_w]
                              rfl
                            refine take_ (i := 5) (N := some 104) (v := ?_) (a' := ?_) #[true, true, true, true, true, true, true, false, false, false, false] rfl rfl (take_ofW HT_.out HW_.out (by kernel_rfl)) (fun _ _ _ h => h) (Or.inl ⟨by rfl, ?_⟩) hHeld ?_ ?_
                            rotate_left
                            · rintro w' ⟨s0, s1, s2, s3, s4, s5, s6, s7, s8, s9, s10, s11, s12, s13, s14⟩
                              go_simp
                              with_reducible rfl
                            rotate_left
                            · simp only [Act.put, List.setIfInBounds_toArray, List.set_cons_zero, List.set_cons_succ, i64_w, i32_w]
                              rfl
                            refine pure_ (i := 7) (N := some 106) (v := ?_) (a' := ?_) #[true, true, true, true, true, true, true, true, false, false, false] rfl rfl (any_of HT_.out (by kernel_rfl)) (fun _ _ _ h => h) (Or.inl ⟨by rfl, ?_⟩) ?_ ?_
                            rotate_left
                            · intro w'
                              go_simp
                              with_reducible rfl
                            rotate_left
                            · simp only [Act.put, List.setIfInBounds_toArray, List.set_cons_zero, List.set_cons_succ, i64_w, i32_w]
                              rfl
                            refine take_ (i := 8) (N := some 107) (v := ?_) (a' := ?_) #[true, true, true, true, true, true, true, true, true, false, false] rfl rfl (take_ofW HT_.out HW_.out (by kernel_rfl)) (fun _ _ _ h => h) (Or.inl ⟨by rfl, ?_⟩) hHeld ?_ ?_
                            rotate_left
                            · rintro w' ⟨s0, s1, s2, s3, s4, s5, s6, s7, s8, s9, s10, s11, s12, s13, s14⟩
                              go_simp
                              with_reducible rfl
                            rotate_left
                            · simp only [Act.put, List.setIfInBounds_toArray, List.set_cons_zero, List.set_cons_succ, i64_w, i32_w]
                              rfl
                            refine pure_ (i := 9) (N := some 108) (v := ?_) (a' := ?_) #[true, true, true, true, true, true, true, true, true, true, false] rfl rfl (any_of HT_.out (by kernel_rfl)) (fun _ _ _ h => h) (Or.inl ⟨by rfl, ?_⟩) ?_ ?_
                            rotate_left
                            · intro w'
                              go_simp
                              with_reducible rfl
                            rotate_left
                            · simp only [Act.put, List.setIfInBounds_toArray, List.set_cons_zero, List.set_cons_succ, i64_w, i32_w]
                              rfl
                            refine pure_ (i := 10) (N := some 109) (v := ?_) (a' := ?_) #[true, true, true, true, true, true, true, true, true, true, true] rfl rfl (any_of HT_.out (by kernel_rfl)) (fun _ _ _ h => h) (Or.inl ⟨by rfl, ?_⟩) ?_ ?_
                            rotate_left
                            · intro w'
                              go_simp
                              with_reducible rfl
                            rotate_left
                            · simp only [Act.put, List.setIfInBounds_toArray, List.set_cons_zero, List.set_cons_succ, i64_w, i32_w]
                              rfl
                            refine done_ (done_of HT_.out (by kernel_rfl)) ?_
                            try go_wp2
                            go_roundg k3
                            case measure => have := HJ11.out; have := HK2.out; have := HK3.out; omega
                            case rel => exact ⟨(wrap64 (x11_3 + 1)), (by first | rfl | (simp; done) | (simp [*]; done)), H', ⟨by have := HJ11.out; have := HK2.out; have := HK3.out; omega⟩, ⟨by (with_reducible repeat (first | apply Kd.R_alloc | apply Kd.R_drewN | apply Kd.R_drew)); exact Kd.R_mono HO_5.out (fun _ hk => trivial)⟩, ⟨by (with_reducible repeat (first | apply Kd.R_alloc | apply Kd.R_drewN | apply Kd.R_drew)); exact HO_380003.out⟩, ⟨by (with_reducible repeat (first | apply Kd.R_alloc | apply Kd.R_drewN | apply Kd.R_drew)); exact Kd.R_mono HO_380004.out (fun _ hk => trivial)⟩, ⟨by (with_reducible repeat (first | refine bN_ ?_ _ | refine bD_ ?_ | refine bA_ ?_ _)); exact BK363.out⟩, ⟨by (with_reducible repeat (first | refine bN_ ?_ _ | refine bD_ ?_ | refine bA_ ?_ _)); exact BK379.out⟩, ⟨by repeat (first | (with_reducible first | exact HB.out | apply bX_ | apply bW_ | apply bY_ | refine bS_ ?_ GE363.out | refine bS_ ?_ GE379.out | refine bS_ ?_ GE406.out) | exact HB.out)⟩⟩
                        · rw [if_neg c89] at H
                          exact absurd H sundiallaw03_HeaderBack.some_no
                      · rw [if_neg c86] at H
                        exact absurd H (by simp)
                    · rw [if_neg c85] at H
                      have c85b0 : decide (x11_3 < (l0_4.length : Int)) = false := decide_eq_false c85
                      clear c85
                      by_cases c124 : t378 = 0
                      · rw [if_pos c124] at H
                        have c124b0 : (t378 == 0) = true := beq_iff_eq.mpr c124
                        have c124b1 : (t378 != 0) = false := bne_eq_false_iff_eq.mpr c124
                        clear c124
                        replace H := Option.bind_eq_some_iff.mp H
                        obtain ⟨t408, A1250, H⟩ := H
                        replace H : (if t408 = true then ((header_Head.f a0_0 64 (IntKind.u64.wrap (64 + (IntKind.u64.wrap (56 * (IntKind.u64.wrap ((l0_3.length : Int))))))) l0_3 l0_4).bind fun t409 => (if 64 ≤ (t366.length : Int) then ((sundiallaw03_same.f t409 (t366.take 64)).bind fun t416 => (if t416 = true then ((sundiallaw03_wakes.f).bind fun t417 => (some t417)) else (some false))) else (none))) else (some false)) = some true := H
                        have A125 := Aside0.mk A1250
                        clear A1250
                        by_cases c126 : t408 = true
                        · subst c126
                          have H1 : ((header_Head.f a0_0 64 (IntKind.u64.wrap (64 + (IntKind.u64.wrap (56 * (IntKind.u64.wrap ((l0_3.length : Int))))))) l0_3 l0_4).bind fun t409 => (if 64 ≤ (t366.length : Int) then ((sundiallaw03_same.f t409 (t366.take 64)).bind fun t416 => (if t416 = true then ((sundiallaw03_wakes.f).bind fun t417 => (some t417)) else (some false))) else (none))) = some true := by rw [if_pos rfl] at H; exact H
                          clear H
                          have H := H1
                          clear H1
                          replace H := Option.bind_eq_some_iff.mp H
                          obtain ⟨t409, A1270, H⟩ := H
                          replace H : (if 64 ≤ (t366.length : Int) then ((sundiallaw03_same.f t409 (t366.take 64)).bind fun t416 => (if t416 = true then ((sundiallaw03_wakes.f).bind fun t417 => (some t417)) else (some false))) else (none)) = some true := H
                          have A127 := Aside0.mk A1270
                          clear A1270
                          by_cases c128 : 64 ≤ (t366.length : Int)
                          · rw [if_pos c128] at H
                            have c128b0 := eq_true c128
                            have c128b1 : decide (64 ≤ (t366.length : Int)) = true := decide_eq_true c128
                            clear c128
                            obtain ⟨y412, hy412⟩ : ∃ y_ : List Int, y_ = (t366.take 64) := ⟨_, rfl⟩
                            replace H : ((sundiallaw03_same.f t409 y412).bind fun t416 => (if t416 = true then ((sundiallaw03_wakes.f).bind fun t417 => (some t417)) else (some false))) = some true := by first | (rw [hy412]; with_reducible exact H) | (have H2_ := (Option.bind_some _ _).symm.trans H; rw [hy412]; with_reducible exact H2_) | (have H2_ := (Option.bind_some _ _).symm.trans H; with_reducible exact H2_) | with_reducible exact H | (rw [hy412]; exact H) | exact H
                            have Ny412 := Aside0.mk hy412
                            clear hy412
                            replace H := Option.bind_eq_some_iff.mp H
                            obtain ⟨t416, A1290, H⟩ := H
                            replace H : (if t416 = true then ((sundiallaw03_wakes.f).bind fun t417 => (some t417)) else (some false)) = some true := H
                            have A129 := Aside0.mk A1290
                            clear A1290
                            by_cases c130 : t416 = true
                            · subst c130
                              have H1 : ((sundiallaw03_wakes.f).bind fun t417 => (some t417)) = some true := by rw [if_pos rfl] at H; exact H
                              clear H
                              have H := H1
                              clear H1
                              replace H := Option.bind_eq_some_iff.mp H
                              obtain ⟨t417, A1310, H⟩ := H
                              replace H : (some t417) = some true := H
                              have A131 := Aside0.mk A1310
                              clear A1310
                              obtain rfl := Option.some.inj H
                              have hnb132 := NB363_379.out
                              have hnc132 := NB379_363.out
                              have hcz133_0 : wr.cell? ⟨gb363, 0, none⟩ = some (.int .u64 a0_0) := (bC_ BK363.out 0).trans rfl
                              have hcz133_1 : wr.cell? ⟨gb363, 1, none⟩ = some (.int .u64 64) := (bC_ BK363.out 1).trans rfl
                              have hcz133_2 : wr.cell? ⟨gb363, 2, none⟩ = some (.int .u64 (IntKind.u64.wrap (64 + (IntKind.u64.wrap (56 * (IntKind.u64.wrap ((l0_3.length : Int)))))))) := (bC_ BK363.out 2).trans rfl
                              have hcz133_3 : wr.cell? ⟨gb363, 3, none⟩ = some (.slice A0_3 l0_3.length c0_3) := (bC_ BK363.out 3).trans rfl
                              have hcz133_4 : wr.cell? ⟨gb363, 4, none⟩ = some (.slice A0_4 l0_4.length c0_4) := (bC_ BK363.out 4).trans rfl
                              have hfz133_0 := bF_ BK363.out 0
                              have hfz133_1 := bF_ BK363.out 1
                              have hfz133_2 := bF_ BK363.out 2
                              have hfz133_3 := bF_ BK363.out 3
                              have hfz133_4 := bF_ BK363.out 4
                              try go_wp2
                              have n0_ := Aside0.mk (Kd.R_drew HO_5.out)
                              have n1_ := Aside0.mk (Kd.R_drew HO_380003.out)
                              have n2_ := Aside0.mk (Kd.R_drew HO_380004.out)
                              have n3_ := Aside0.mk (bD_ BK363.out)
                              have n4_ := Aside0.mk (bD_ BK379.out)
                              have n5_ := Aside0.mk (bY_ HB.out)
                              clear HO_5
                              clear HO_380003
                              clear HO_380004
                              clear BK363
                              clear BK379
                              clear HB
                              have HO_5 := n0_
                              have HO_380003 := n1_
                              have HO_380004 := n2_
                              have BK363 := n3_
                              have BK379 := n4_
                              have HB := n5_
                              clear n0_ n1_ n2_ n3_ n4_ n5_
                              refine start_ (n := 18) (S := fun w' => w'.cell? ⟨gb379, 0, none⟩ = some (.int .u64 t369) ∧ w'.cell? ⟨gb379, 1, none⟩ = some (.int .u64 t370) ∧ w'.cell? ⟨gb379, 2, none⟩ = some (.int .u64 t371) ∧ w'.cell? ⟨gb379, 3, none⟩ = some (.slice Ao23 t372.length co23) ∧ w'.cell? ⟨gb379, 4, none⟩ = some (.slice Ao24 t375.length co24) ∧ w'.cell? ⟨gb363, 0, none⟩ = some (.int .u64 a0_0) ∧ w'.cell? ⟨gb363, 1, none⟩ = some (.int .u64 64) ∧ w'.cell? ⟨gb363, 2, none⟩ = some (.int .u64 (IntKind.u64.wrap (64 + (IntKind.u64.wrap (56 * (IntKind.u64.wrap ((l0_3.length : Int)))))))) ∧ w'.cell? ⟨gb363, 3, none⟩ = some (.slice A0_3 l0_3.length c0_3) ∧ w'.cell? ⟨gb363, 4, none⟩ = some (.slice A0_4 l0_4.length c0_4)) (ds := []) #[false, false, false, false, false, false, false, false, false, false, false, false, false, false, false, false, false, false] (by kernel_rfl) rfl rfl ⟨(bC_ BK379.out 0).trans rfl, (bC_ BK379.out 1).trans rfl, (bC_ BK379.out 2).trans rfl, (bC_ BK379.out 3).trans rfl, (bC_ BK379.out 4).trans rfl, (bC_ BK363.out 0).trans rfl, (bC_ BK363.out 1).trans rfl, (bC_ BK363.out 2).trans rfl, (bC_ BK363.out 3).trans rfl, (bC_ BK363.out 4).trans rfl⟩ (fun hHeld => ?_); refine with_tabW sundiallaw03_HeaderBack.tab20 sundiallaw03_HeaderBack.bits20 (fun HT_ HW_ => ?_)
                              generalize wr.drew = w134 at HO_5 HO_380003 HO_380004 BK363 BK379 HB hHeld ⊢
                              refine pure_ (i := 0) (N := some 110) (v := ?_) (a' := ?_) #[true, false, false, false, false, false, false, false, false, false, false, false, false, false, false, false, false, false] rfl rfl (any_of HT_.out (by kernel_rfl)) (fun _ _ _ h => h) (Or.inl ⟨by rfl, ?_⟩) ?_ ?_
                              rotate_left
                              · intro w'
                                go_simp
                                with_reducible rfl
                              rotate_left
                              · simp only [Act.put, List.setIfInBounds_toArray, List.set_cons_zero, List.set_cons_succ, i64_w, i32_w]
                                rfl
                              refine pure_ (i := 1) (N := some 111) (v := ?_) (a' := ?_) #[true, true, false, false, false, false, false, false, false, false, false, false, false, false, false, false, false, false] rfl rfl (any_of HT_.out (by kernel_rfl)) (fun _ _ _ h => h) (Or.inl ⟨by rfl, ?_⟩) ?_ ?_
                              rotate_left
                              · intro w'
                                go_simp
                                with_reducible rfl
                              rotate_left
                              · simp only [Act.put, List.setIfInBounds_toArray, List.set_cons_zero, List.set_cons_succ, i64_w, i32_w]
                                rfl
                              refine pure_ (i := 2) (N := some 112) (v := ?_) (a' := ?_) #[true, true, true, false, false, false, false, false, false, false, false, false, false, false, false, false, false, false] rfl rfl (any_of HT_.out (by kernel_rfl)) (fun _ _ _ h => h) (Or.inl ⟨by rfl, ?_⟩) ?_ ?_
                              rotate_left
                              · intro w'
                                go_simp
                                with_reducible rfl
                              rotate_left
                              · simp only [Act.put, List.setIfInBounds_toArray, List.set_cons_zero, List.set_cons_succ, i64_w, i32_w]
                                rfl
                              refine take_ (i := 3) (N := some 113) (v := ?_) (a' := ?_) #[true, true, true, true, false, false, false, false, false, false, false, false, false, false, false, false, false, false] rfl rfl (take_ofW HT_.out HW_.out (by kernel_rfl)) (fun _ _ _ h => h) (Or.inl ⟨by rfl, ?_⟩) hHeld ?_ ?_
                              rotate_left
                              · rintro w' ⟨s0, s1, s2, s3, s4, s5, s6, s7, s8, s9⟩
                                go_simp
                                with_reducible rfl
                              rotate_left
                              · simp only [Act.put, List.setIfInBounds_toArray, List.set_cons_zero, List.set_cons_succ, i64_w, i32_w]
                                rfl
                              refine take_ (i := 4) (N := some 114) (v := ?_) (a' := ?_) #[true, true, true, true, true, false, false, false, false, false, false, false, false, false, false, false, false, false] rfl rfl (take_ofW HT_.out HW_.out (by kernel_rfl)) (fun _ _ _ h => h) (Or.inl ⟨by rfl, ?_⟩) hHeld ?_ ?_
                              rotate_left
                              · rintro w' ⟨s0, s1, s2, s3, s4, s5, s6, s7, s8, s9⟩
                                go_simp
                                with_reducible rfl
                              rotate_left
                              · simp only [Act.put, List.setIfInBounds_toArray, List.set_cons_zero, List.set_cons_succ, i64_w, i32_w]
                                rfl
                              refine one_ (i := 5) (N := some 115) #[true, true, true, true, true, true, false, false, false, false, false, false, false, false, false, false, false, false] rfl rfl (one_of HT_.out (by kernel_rfl)) (by decide) (fun K hK => ?_)
                              refine goes_ Tryd.func12 (by kernel_rfl) rfl #[.agg #[.int .u64 t369, .int .u64 t370, .int .u64 t371, .slice Ao23 t372.length co23, .slice Ao24 t375.length co24], .agg #[.int .u64 a0_0, .int .u64 64, .int .u64 (IntKind.u64.wrap (64 + (IntKind.u64.wrap (56 * (IntKind.u64.wrap ((l0_3.length : Int))))))), .slice A0_3 l0_3.length c0_3, .slice A0_4 l0_4.length c0_4]] (by rfl) rfl rfl (by (try simp only [List.map_toArray, List.map_cons, List.map_nil]); first | done | rfl | (simp only [List.length_drop, List.length_take]; rfl)) ?_
                              with_reducible refine (sundialref03_Same.calls k3 t369 t370 t371 _ _ t372 _ _ t375 a0_0 64 (IntKind.u64.wrap (64 + (IntKind.u64.wrap (56 * (IntKind.u64.wrap ((l0_3.length : Int))))))) _ _ l0_3 _ _ l0_4 true _ ?side1 ?side2 ?side3 ?side4 ?side5 ?side6 ?side7 ?side8 A125.out).mono ?_
                              (case side1 => repeat (first | exact (Kd.R_reads' HO_380003.out).2.2 | (with_reducible refine Kd.C_alloc ?_ _) | (with_reducible refine Kd.C_drewN ?_ _) | (with_reducible refine Kd.C_drew ?_)))
                              (case side2 => exact (Kd.R_reads' HO_380003.out).2.1)
                              (case side3 => repeat (first | exact (Kd.R_reads' HO_380004.out).2.2 | (with_reducible refine Kd.C_alloc ?_ _) | (with_reducible refine Kd.C_drewN ?_ _) | (with_reducible refine Kd.C_drew ?_)))
                              (case side4 => exact (Kd.R_reads' HO_380004.out).2.1)
                              (case side5 => repeat (first | exact (Kd.C_below HR0_3.out HB.out) | (with_reducible refine Kd.C_alloc ?_ _) | (with_reducible refine Kd.C_drewN ?_ _) | (with_reducible refine Kd.C_drew ?_)))
                              (case side6 => exact HC0_3.out)
                              (case side7 => repeat (first | exact (Kd.C_below HR0_4.out HB.out) | (with_reducible refine Kd.C_alloc ?_ _) | (with_reducible refine Kd.C_drewN ?_ _) | (with_reducible refine Kd.C_drew ?_)))
                              (case side8 => exact HC0_4.out)
                              rintro e w135 ⟨rfl, hb⟩
                              refine ⟨_, rfl, ?_⟩
                              have n0_ := Aside0.mk (Kd.R_below (by (with_reducible repeat (first | apply Kd.R_alloc | apply Kd.R_drewN | apply Kd.R_drew)); exact HO_5.out) hb)
                              have n1_ := Aside0.mk (Kd.R_below (by (with_reducible repeat (first | apply Kd.R_alloc | apply Kd.R_drewN | apply Kd.R_drew)); exact HO_380003.out) hb)
                              have n2_ := Aside0.mk (Kd.R_below (by (with_reducible repeat (first | apply Kd.R_alloc | apply Kd.R_drewN | apply Kd.R_drew)); exact HO_380004.out) hb)
                              have n3_ := Aside0.mk (blk_below (g := gb363) (o := .cells #[.int .u64 a0_0, .int .u64 64, .int .u64 (IntKind.u64.wrap (64 + (IntKind.u64.wrap (56 * (IntKind.u64.wrap ((l0_3.length : Int))))))), .slice A0_3 l0_3.length c0_3, .slice A0_4 l0_4.length c0_4] 27 (0, 0)) (by (with_reducible repeat (first | refine bN_ ?_ _ | refine bD_ ?_ | refine bA_ ?_ _)); exact BK363.out) hb)
                              have n4_ := Aside0.mk (blk_below (g := gb379) (o := .cells #[.int .u64 t369, .int .u64 t370, .int .u64 t371, .slice Ao23 t372.length co23, .slice Ao24 t375.length co24] 27 (0, 0)) (by (with_reducible repeat (first | refine bN_ ?_ _ | refine bD_ ?_ | refine bA_ ?_ _)); exact BK379.out) hb)
                              have n5_ := Aside0.mk (below_step (by repeat (first | (with_reducible first | exact HB.out | apply bX_ | apply bW_ | apply bY_ | refine bS_ ?_ GE363.out | refine bS_ ?_ GE379.out) | exact HB.out)) hb)
                              clear HO_5
                              clear HO_380003
                              clear HO_380004
                              clear BK363
                              clear BK379
                              clear HB
                              have HO_5 := n0_
                              have HO_380003 := n1_
                              have HO_380004 := n2_
                              have BK363 := n3_
                              have BK379 := n4_
                              have HB := n5_
                              clear n0_ n1_ n2_ n3_ n4_ n5_
                              (try clear hb)
                              (try clear hb2)
                              (try clear hk)
                              (try clear hi)
                              refine hK.out _ _ ⟨(bC_ BK379.out 0).trans rfl, (bC_ BK379.out 1).trans rfl, (bC_ BK379.out 2).trans rfl, (bC_ BK379.out 3).trans rfl, (bC_ BK379.out 4).trans rfl, (bC_ BK363.out 0).trans rfl, (bC_ BK363.out 1).trans rfl, (bC_ BK363.out 2).trans rfl, (bC_ BK363.out 3).trans rfl, (bC_ BK363.out 4).trans rfl⟩ (fun hHeld => ?_)
                              clear hK K
                              refine norm_ (a' := ?_) ?_ ?_
                              rotate_left
                              · show Act.put _ (some 115) _ = _
                                simp only [Act.put, List.setIfInBounds_toArray, List.set_cons_zero, List.set_cons_succ, i64_w, i32_w]
                                rfl
                              refine pure_ (i := 6) (N := some 116) (v := ?_) (a' := ?_) #[true, true, true, true, true, true, true, false, false, false, false, false, false, false, false, false, false, false] rfl rfl (any_of HT_.out (by kernel_rfl)) (fun _ _ _ h => h) (Or.inl ⟨by rfl, ?_⟩) ?_ ?_
                              rotate_left
                              · intro w'
                                go_simp
                                with_reducible rfl
                              rotate_left
                              · simp only [Act.put, List.setIfInBounds_toArray, List.set_cons_zero, List.set_cons_succ, i64_w, i32_w]
                                rfl
                              refine pure_ (i := 7) (N := some 117) (v := ?_) (a' := ?_) #[true, true, true, true, true, true, true, true, false, false, false, false, false, false, false, false, false, false] rfl rfl (any_of HT_.out (by kernel_rfl)) (fun _ _ _ h => h) (Or.inl ⟨by rfl, ?_⟩) ?_ ?_
                              rotate_left
                              · intro w'
                                go_simp
                                with_reducible rfl
                              rotate_left
                              · simp only [Act.put, List.setIfInBounds_toArray, List.set_cons_zero, List.set_cons_succ, i64_w, i32_w]
                                rfl
                              refine pure_ (i := 10) (N := some 120) (v := ?_) (a' := ?_) #[true, true, true, true, true, true, true, true, false, false, true, false, false, false, false, false, false, false] rfl rfl (any_of HT_.out (by kernel_rfl)) (fun _ _ _ h => h) (Or.inl ⟨by rfl, ?_⟩) ?_ ?_
                              rotate_left
                              · intro w'
                                go_simp
                                with_reducible rfl
                              rotate_left
                              · simp only [Act.put, List.setIfInBounds_toArray, List.set_cons_zero, List.set_cons_succ, i64_w, i32_w]
                                rfl
                              have qz : (64 : Int) ≤ ((t366.length : Int) : Int) := of_decide_eq_true (by first | (with_reducible assumption) | assumption)
                              have qr : t366.length ≤ co18 := (Kd.R_reads' HO_5.out).2.1
                              have QC := Aside0.mk (show (64 : Int) ≤ (co18 : Int) by omega)
                              have QY := Aside0.mk (show (64 : Nat) = y412.length by rw [Ny412.out, List.length_take]; omega)
                              clear qz qr
                              refine pure_ (i := 11) (N := some 121) (v := ?_) (a' := ?_) #[true, true, true, true, true, true, true, true, false, false, true, true, false, false, false, false, false, false] rfl rfl (any_of HT_.out (by kernel_rfl)) (fun _ _ _ h => h) (Or.inl ⟨by rfl, ?_⟩) ?_ ?_
                              rotate_left
                              · intro w'
                                go_simp
                                refine (if_pos QC.out).trans ?_
                                refine (congrArg (fun n_ => Result.ok (Next.value (Value.slice Ao18 n_ co18)) w') QY.out).trans ?_
                                with_reducible rfl
                              rotate_left
                              · simp only [Act.put, List.setIfInBounds_toArray, List.set_cons_zero, List.set_cons_succ, i64_w, i32_w]
                                rfl
                              refine take_ (i := 8) (N := some 118) (v := ?_) (a' := ?_) #[true, true, true, true, true, true, true, true, true, false, true, true, false, false, false, false, false, false] rfl rfl (take_ofW HT_.out HW_.out (by kernel_rfl)) (fun _ _ _ h => h) (Or.inl ⟨by rfl, ?_⟩) hHeld ?_ ?_
                              rotate_left
                              · rintro w' ⟨s0, s1, s2, s3, s4, s5, s6, s7, s8, s9⟩
                                go_simp
                                with_reducible rfl
                              rotate_left
                              · simp only [Act.put, List.setIfInBounds_toArray, List.set_cons_zero, List.set_cons_succ, i64_w, i32_w]
                                rfl
                              refine one_ (i := 9) (N := some 119) #[true, true, true, true, true, true, true, true, true, true, true, true, false, false, false, false, false, false] rfl rfl (one_of HT_.out (by kernel_rfl)) (by decide) (fun K hK => ?_)
                              refine goes_ Tryd.func14 (by kernel_rfl) rfl #[.agg #[.int .u64 a0_0, .int .u64 64, .int .u64 (IntKind.u64.wrap (64 + (IntKind.u64.wrap (56 * (IntKind.u64.wrap ((l0_3.length : Int))))))), .slice A0_3 l0_3.length c0_3, .slice A0_4 l0_4.length c0_4]] (by rfl) rfl rfl (by (try simp only [List.map_toArray, List.map_cons, List.map_nil]); first | done | rfl | (simp only [List.length_drop, List.length_take]; rfl)) ?_
                              with_reducible refine (header_Head.calls a0_0 64 (IntKind.u64.wrap (64 + (IntKind.u64.wrap (56 * (IntKind.u64.wrap ((l0_3.length : Int))))))) _ _ l0_3 _ _ l0_4 t409 _ ?side1 ?side2 ?side3 ?side4 (Tab.below HTAB.out (by repeat (first | (with_reducible first | exact HB.out | apply bX_ | apply bW_ | apply bY_ | refine bS_ ?_ GE363.out) | exact HB.out))) A127.out).mono ?_
                              (case side1 => repeat (first | exact (Kd.C_below HR0_3.out HB.out) | (with_reducible refine Kd.C_alloc ?_ _) | (with_reducible refine Kd.C_drewN ?_ _) | (with_reducible refine Kd.C_drew ?_)))
                              (case side2 => exact HC0_3.out)
                              (case side3 => repeat (first | exact (Kd.C_below HR0_4.out HB.out) | (with_reducible refine Kd.C_alloc ?_ _) | (with_reducible refine Kd.C_drewN ?_ _) | (with_reducible refine Kd.C_drew ?_)))
                              (case side4 => exact HC0_4.out)
                              rintro e w136 ⟨v410, rfl, ho0, hb⟩
                              refine ⟨_, rfl, ?_⟩
                              have n0_ := Aside0.mk (Kd.R_elder' (by (with_reducible repeat (first | apply Kd.R_alloc | apply Kd.R_drewN | apply Kd.R_drew)); exact HO_5.out) (by first | exact Kd.R_base ho0 | exact Kd.R_base (Kd.S_R ho0) | exact Kd.R_base ho0) hb)
                              have n1_ := Aside0.mk (Kd.R_below (by (with_reducible repeat (first | apply Kd.R_alloc | apply Kd.R_drewN | apply Kd.R_drew)); exact HO_380003.out) hb)
                              have n2_ := Aside0.mk (Kd.R_below (by (with_reducible repeat (first | apply Kd.R_alloc | apply Kd.R_drewN | apply Kd.R_drew)); exact HO_380004.out) hb)
                              have n3_ := Aside0.mk (Kd.R_lower (Kd.R_new' ho0 (Kd.R_lt (by (with_reducible repeat (first | apply Kd.R_alloc | apply Kd.R_drewN | apply Kd.R_drew)); exact HO_5.out))) (below_size (by repeat (first | (with_reducible first | exact HB.out | apply bX_ | apply bW_ | apply bY_ | refine bS_ ?_ GE363.out | refine bS_ ?_ GE379.out) | exact HB.out))))
                              have n4_ := Aside0.mk (blk_below (g := gb363) (o := .cells #[.int .u64 a0_0, .int .u64 64, .int .u64 (IntKind.u64.wrap (64 + (IntKind.u64.wrap (56 * (IntKind.u64.wrap ((l0_3.length : Int))))))), .slice A0_3 l0_3.length c0_3, .slice A0_4 l0_4.length c0_4] 27 (0, 0)) (by (with_reducible repeat (first | refine bN_ ?_ _ | refine bD_ ?_ | refine bA_ ?_ _)); exact BK363.out) hb)
                              have n5_ := Aside0.mk (blk_below (g := gb379) (o := .cells #[.int .u64 t369, .int .u64 t370, .int .u64 t371, .slice Ao23 t372.length co23, .slice Ao24 t375.length co24] 27 (0, 0)) (by (with_reducible repeat (first | refine bN_ ?_ _ | refine bD_ ?_ | refine bA_ ?_ _)); exact BK379.out) hb)
                              have n6_ := Aside0.mk (below_step (by repeat (first | (with_reducible first | exact HB.out | apply bX_ | apply bW_ | apply bY_ | refine bS_ ?_ GE363.out | refine bS_ ?_ GE379.out) | exact HB.out)) hb)
                              clear HO_5
                              clear HO_380003
                              clear HO_380004
                              clear BK363
                              clear BK379
                              clear HB
                              have HO_5 := n0_
                              have HO_380003 := n1_
                              have HO_380004 := n2_
                              have HO411 := n3_
                              have BK363 := n4_
                              have BK379 := n5_
                              have HB := n6_
                              clear n0_ n1_ n2_ n3_ n4_ n5_ n6_
                              (try clear hb)
                              (try clear hb2)
                              (try clear hk)
                              (try clear hi)
                              (try clear ho0)
                              have q137 : (64 : Int) ≤ ((t366.length : Int) : Int) := of_decide_eq_true (by first | (with_reducible assumption) | assumption)
                              obtain ⟨i0137, hi0137, _, hsz137, _⟩ := info_parts info5
                              have hroom137 : t366.length ≤ co18 := (Kd.R_reads' HO_5.out).2.1
                              have hC137 : Kd.C (Kd.int .u8) _ Ao18 t366.length t366 := (Kd.R_reads' HO_5.out).2.2
                              have hcut137 := cut_to (P := Tryd.prog) 22 5 .i64 Tryd.underlying22 hi0137 Ao18 t366.length co18 64 (by decide) q137 hroom137
                              have hr137 := Kd.C_take (m := 64) hC137 (Int.ofNat_le.mp q137)
                              have hy137 : y412.length = (64 : Int).toNat := QY.out.symm
                              rw [← Ny412.out] at hr137
                              rw [← hy137] at hcut137
                              have HR415 := Aside0.mk hr137
                              have HC415 := Aside0.mk (show y412.length ≤ co18 from Nat.le_trans (Nat.le_of_eq QY.out.symm) (Int.ofNat_le.mp QC.out))
                              clear hr137 hC137 hroom137 hi0137 hsz137
                              have KY137 := Aside0.mk hy137
                              clear hy137
                              have KL137 := Aside0.mk (show 64 ≤ t366.length from Int.ofNat_le.mp q137)
                              replace q137 := eq_true q137
                              obtain ⟨Ao138, co138, eo138⟩ := Kd.R_slice HO411.out
                              (first | subst eo138 | (injection eo138 with f1_ f2_ f3_; have f4_ := f1_.symm; have f5_ := f3_.symm; clear f1_ f2_ f3_; subst f4_; subst f5_))
                              refine hK.out _ _ ⟨(bC_ BK379.out 0).trans rfl, (bC_ BK379.out 1).trans rfl, (bC_ BK379.out 2).trans rfl, (bC_ BK379.out 3).trans rfl, (bC_ BK379.out 4).trans rfl, (bC_ BK363.out 0).trans rfl, (bC_ BK363.out 1).trans rfl, (bC_ BK363.out 2).trans rfl, (bC_ BK363.out 3).trans rfl, (bC_ BK363.out 4).trans rfl⟩ (fun hHeld => ?_)
                              clear hK K
                              refine norm_ (a' := ?_) ?_ ?_
                              rotate_left
                              · show Act.put _ (some 119) _ = _
                                simp only [Act.put, List.setIfInBounds_toArray, List.set_cons_zero, List.set_cons_succ, i64_w, i32_w]
                                rfl
                              refine one_ (i := 12) (N := some 122) #[true, true, true, true, true, true, true, true, true, true, true, true, true, false, false, false, false, false] rfl rfl (one_of HT_.out (by kernel_rfl)) (by decide) (fun K hK => ?_)
                              refine goes_ Tryd.func13 (by kernel_rfl) rfl #[.slice Ao138 t409.length co138, .slice Ao18 y412.length co18] (by rfl) rfl rfl (by (try simp only [List.map_toArray, List.map_cons, List.map_nil]); first | done | rfl | (simp only [List.length_drop, List.length_take]; rfl)) ?_
                              with_reducible refine (sundiallaw03_same.calls _ _ t409 _ _ y412 true _ ?side1 ?side2 ?side3 ?side4 A129.out).mono ?_
                              (case side1 => repeat (first | exact (Kd.R_reads' HO411.out).2.2 | (with_reducible refine Kd.C_alloc ?_ _) | (with_reducible refine Kd.C_drewN ?_ _) | (with_reducible refine Kd.C_drew ?_)))
                              (case side2 => exact (Kd.R_reads' HO411.out).2.1)
                              (case side3 => repeat (first | exact (by repeat (first | (with_reducible exact HR415.out) | (with_reducible refine Kd.C_alloc ?_ _) | (with_reducible refine Kd.C_drewN ?_ _) | (with_reducible refine Kd.C_drew ?_) | exact HR415.out)) | (with_reducible refine Kd.C_alloc ?_ _) | (with_reducible refine Kd.C_drewN ?_ _) | (with_reducible refine Kd.C_drew ?_)))
                              (case side4 => exact HC415.out)
                              rintro e w' ⟨rfl, ⟨nd, rfl⟩⟩
                              refine ⟨_, rfl, ?_⟩
                              refine hK.out _ _ ⟨(bC_ BK379.out 0).trans rfl, (bC_ BK379.out 1).trans rfl, (bC_ BK379.out 2).trans rfl, (bC_ BK379.out 3).trans rfl, (bC_ BK379.out 4).trans rfl, (bC_ BK363.out 0).trans rfl, (bC_ BK363.out 1).trans rfl, (bC_ BK363.out 2).trans rfl, (bC_ BK363.out 3).trans rfl, (bC_ BK363.out 4).trans rfl⟩ (fun hHeld => ?_)
                              clear hK K
                              refine norm_ (a' := ?_) ?_ ?_
                              rotate_left
                              · show Act.put _ (some 122) _ = _
                                simp only [Act.put, List.setIfInBounds_toArray, List.set_cons_zero, List.set_cons_succ, i64_w, i32_w]
                                rfl
                              refine pure_ (i := 13) (N := some 123) (v := ?_) (a' := ?_) #[true, true, true, true, true, true, true, true, true, true, true, true, true, true, false, false, false, false] rfl rfl (any_of HT_.out (by kernel_rfl)) (fun _ _ _ h => h) (Or.inl ⟨by rfl, ?_⟩) ?_ ?_
                              rotate_left
                              · intro w'
                                go_simp
                                with_reducible rfl
                              rotate_left
                              · simp only [Act.put, List.setIfInBounds_toArray, List.set_cons_zero, List.set_cons_succ, i64_w, i32_w]
                                rfl
                              refine pure_ (i := 14) (N := some 124) (v := ?_) (a' := ?_) #[true, true, true, true, true, true, true, true, true, true, true, true, true, true, true, false, false, false] rfl rfl (any_of HT_.out (by kernel_rfl)) (fun _ _ _ h => h) (Or.inl ⟨by rfl, ?_⟩) ?_ ?_
                              rotate_left
                              · intro w'
                                go_simp
                                with_reducible rfl
                              rotate_left
                              · simp only [Act.put, List.setIfInBounds_toArray, List.set_cons_zero, List.set_cons_succ, i64_w, i32_w]
                                rfl
                              refine one_ (i := 15) (N := some 125) #[true, true, true, true, true, true, true, true, true, true, true, true, true, true, true, true, false, false] rfl rfl (one_of HT_.out (by kernel_rfl)) (by decide) (fun K hK => ?_)
                              refine goes_ Tryd.func9 (by kernel_rfl) rfl #[] (by rfl) rfl rfl (by (try simp only [List.map_toArray, List.map_cons, List.map_nil]); first | done | rfl | (simp only [List.length_drop, List.length_take]; rfl)) ?_
                              with_reducible refine (sundiallaw03_wakes.calls true _ (Tab.below HTAB.out (by repeat (first | (with_reducible first | exact HB.out | apply bX_ | apply bW_ | apply bY_) | exact HB.out))) A131.out).mono ?_
                              rintro e w139 ⟨rfl, hb⟩
                              refine ⟨_, rfl, ?_⟩
                              have n0_ := Aside0.mk (Kd.R_below (by (with_reducible repeat (first | apply Kd.R_alloc | apply Kd.R_drewN | apply Kd.R_drew)); exact HO_5.out) hb)
                              have n1_ := Aside0.mk (Kd.R_below (by (with_reducible repeat (first | apply Kd.R_alloc | apply Kd.R_drewN | apply Kd.R_drew)); exact HO_380003.out) hb)
                              have n2_ := Aside0.mk (Kd.R_below (by (with_reducible repeat (first | apply Kd.R_alloc | apply Kd.R_drewN | apply Kd.R_drew)); exact HO_380004.out) hb)
                              have n3_ := Aside0.mk (Kd.R_below (by (with_reducible repeat (first | apply Kd.R_alloc | apply Kd.R_drewN | apply Kd.R_drew)); exact HO411.out) hb)
                              have n4_ := Aside0.mk (blk_below (g := gb363) (o := .cells #[.int .u64 a0_0, .int .u64 64, .int .u64 (IntKind.u64.wrap (64 + (IntKind.u64.wrap (56 * (IntKind.u64.wrap ((l0_3.length : Int))))))), .slice A0_3 l0_3.length c0_3, .slice A0_4 l0_4.length c0_4] 27 (0, 0)) (by (with_reducible repeat (first | refine bN_ ?_ _ | refine bD_ ?_ | refine bA_ ?_ _)); exact BK363.out) hb)
                              have n5_ := Aside0.mk (blk_below (g := gb379) (o := .cells #[.int .u64 t369, .int .u64 t370, .int .u64 t371, .slice Ao23 t372.length co23, .slice Ao24 t375.length co24] 27 (0, 0)) (by (with_reducible repeat (first | refine bN_ ?_ _ | refine bD_ ?_ | refine bA_ ?_ _)); exact BK379.out) hb)
                              have n6_ := Aside0.mk (Kd.C_below (by repeat (first | (with_reducible exact HR415.out) | (with_reducible refine Kd.C_alloc ?_ _) | (with_reducible refine Kd.C_drewN ?_ _) | (with_reducible refine Kd.C_drew ?_) | exact HR415.out)) hb)
                              have n7_ := Aside0.mk (below_step (by repeat (first | (with_reducible first | exact HB.out | apply bX_ | apply bW_ | apply bY_ | refine bS_ ?_ GE363.out | refine bS_ ?_ GE379.out) | exact HB.out)) hb)
                              clear HO_5
                              clear HO_380003
                              clear HO_380004
                              clear HO411
                              clear BK363
                              clear BK379
                              clear HR415
                              clear HB
                              have HO_5 := n0_
                              have HO_380003 := n1_
                              have HO_380004 := n2_
                              have HO411 := n3_
                              have BK363 := n4_
                              have BK379 := n5_
                              have HR415 := n6_
                              have HB := n7_
                              clear n0_ n1_ n2_ n3_ n4_ n5_ n6_ n7_
                              (try clear hb)
                              (try clear hb2)
                              (try clear hk)
                              (try clear hi)
                              refine hK.out _ _ ⟨(bC_ BK379.out 0).trans rfl, (bC_ BK379.out 1).trans rfl, (bC_ BK379.out 2).trans rfl, (bC_ BK379.out 3).trans rfl, (bC_ BK379.out 4).trans rfl, (bC_ BK363.out 0).trans rfl, (bC_ BK363.out 1).trans rfl, (bC_ BK363.out 2).trans rfl, (bC_ BK363.out 3).trans rfl, (bC_ BK363.out 4).trans rfl⟩ (fun hHeld => ?_)
                              clear hK K
                              refine norm_ (a' := ?_) ?_ ?_
                              rotate_left
                              · show Act.put _ (some 125) _ = _
                                simp only [Act.put, List.setIfInBounds_toArray, List.set_cons_zero, List.set_cons_succ, i64_w, i32_w]
                                rfl
                              refine pure_ (i := 16) (N := some 126) (v := ?_) (a' := ?_) #[true, true, true, true, true, true, true, true, true, true, true, true, true, true, true, true, true, false] rfl rfl (any_of HT_.out (by kernel_rfl)) (fun _ _ _ h => h) (Or.inl ⟨by rfl, ?_⟩) ?_ ?_
                              rotate_left
                              · intro w'
                                go_simp
                                with_reducible rfl
                              rotate_left
                              · simp only [Act.put, List.setIfInBounds_toArray, List.set_cons_zero, List.set_cons_succ, i64_w, i32_w]
                                rfl
                              refine pure_ (i := 17) (N := some 4) (v := ?_) (a' := ?_) #[true, true, true, true, true, true, true, true, true, true, true, true, true, true, true, true, true, true] rfl rfl (any_of HT_.out (by kernel_rfl)) (fun _ _ _ h => h) (Or.inl ⟨by rfl, ?_⟩) ?_ ?_
                              rotate_left
                              · intro w'
                                go_simp
                                with_reducible rfl
                              rotate_left
                              · simp only [Act.put, List.setIfInBounds_toArray, List.set_cons_zero, List.set_cons_succ, i64_w, i32_w]
                                rfl
                              refine done_ (done_of HT_.out (by kernel_rfl)) ?_
                              try go_wp2
                              go_ret
                              exact ⟨by first | rfl | (simp [errW_none, errW_some] <;> rfl) | (simp [*, errW_none, errW_some] <;> rfl), by repeat (first | (with_reducible first | exact HB.out | apply bX_ | apply bW_ | apply bY_ | refine bS_ ?_ GE363.out | refine bS_ ?_ GE379.out) | exact HB.out)⟩
                            · rw [if_neg c130] at H
                              exact absurd H sundiallaw03_HeaderBack.some_no
                          · rw [if_neg c128] at H
                            exact absurd H (by simp)
                        · rw [if_neg c126] at H
                          exact absurd H sundiallaw03_HeaderBack.some_no
                      · rw [if_neg c124] at H
                        exact absurd H sundiallaw03_HeaderBack.some_no
end Go.Proofs.YtopldeeojehklaaDoor.B
