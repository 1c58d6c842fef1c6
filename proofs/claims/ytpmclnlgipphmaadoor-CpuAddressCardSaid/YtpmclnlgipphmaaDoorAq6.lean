/- Words and walks that were printed. -/
import Derived.Test.YtpmclnlgipphmaaDoorAq3
import Derived.Test.YtpmclnlgipphmaaDoorAq5
namespace Go.Proofs.YtpmclnlgipphmaaDoor.B
open Go.RowKit Go.Proofs.YtpmclnlgipphmaaDoorW.PrintWords Go.Proofs.YtpmclnlgipphmaaDoorW.PrintLast Go.Proofs.YtpmclnlgipphmaaDoorW.PrintMore
attribute [local go_sem] max2_int min2_int max_two min_two max_three min_three max_four min_four   -- for this text's walks alone
set_option linter.unusedVariables false
set_option linter.unusedSimpArgs false
attribute [local go_sem high] eqA36
mutual
def sundialref08_Right.j0 : Nat → Bool → Int → Int → Int → Int → Int → Int → Bool → Int → Option (Bool)
  | 0, _, _, _, _, _, _, _, _, _ => none
  | k + 1, x43, x116000, x116001, x116002, x116003, x116004, x116005, x116006, x116007 => if x43 = true then (some false) else (if x116006 = true then (if x116002 = (-1) then (if x116003 = (-1) then (some (x116004 == 1)) else (some false)) else (some false)) else (if x116002 < (-1) then (sundialref08_Right.j1 k true x116000 x116001 x116002 x116003 x116004 x116005 x116006 x116007) else (if x116002 > 15 then (sundialref08_Right.j1 k true x116000 x116001 x116002 x116003 x116004 x116005 x116006 x116007) else (if x116003 < (-1) then (sundialref08_Right.j1 k true x116000 x116001 x116002 x116003 x116004 x116005 x116006 x116007) else (if x116003 > 15 then (sundialref08_Right.j1 k true x116000 x116001 x116002 x116003 x116004 x116005 x116006 x116007) else (sundialref08_Right.j1 k (x116003 == 4) x116000 x116001 x116002 x116003 x116004 x116005 x116006 x116007))))))
def sundialref08_Right.j1 : Nat → Bool → Int → Int → Int → Int → Int → Int → Bool → Int → Option (Bool)
  | 0, _, _, _, _, _, _, _, _, _ => none
  | k + 1, x81, x116000, x116001, x116002, x116003, x116004, x116005, x116006, x116007 => if x81 = true then (some false) else (if x116003 < 0 then (some (x116004 == 1)) else (if x116004 = 1 then (some true) else (if x116004 = 2 then (some true) else (if x116004 = 4 then (some true) else (some (x116004 == 8))))))
end
def sundialref08_Right.f (k : Nat) (a0_0 : Int) (a0_1 : Int) (a0_2 : Int) (a0_3 : Int) (a0_4 : Int) (a0_5 : Int) (a0_6 : Bool) (a0_7 : Int) : Option (Bool) := if a0_0 = 1 then ((sundialref08_Reg.f a0_1).bind fun bt116 => (if (a0_0 == bt116.1 && (a0_1 == bt116.2.1 && (a0_2 == bt116.2.2.1 && (a0_3 == bt116.2.2.2.1 && (a0_4 == bt116.2.2.2.2.1 && (a0_5 == bt116.2.2.2.2.2.1 && (a0_6 == bt116.2.2.2.2.2.2.1 && (a0_7 == bt116.2.2.2.2.2.2.2)))))))) = true then (if a0_1 ≥ 0 then (some (decide (a0_1 < 16))) else (some false)) else (some false))) else (if a0_0 = 2 then (if a0_1 = 0 then (if a0_7 = 0 then (if a0_5 < (-2147483648) then (sundialref08_Right.j0 k true a0_0 a0_1 a0_2 a0_3 a0_4 a0_5 a0_6 a0_7) else (sundialref08_Right.j0 k (decide (a0_5 ≥ 2147483648)) a0_0 a0_1 a0_2 a0_3 a0_4 a0_5 a0_6 a0_7)) else (sundialref08_Right.j0 k true a0_0 a0_1 a0_2 a0_3 a0_4 a0_5 a0_6 a0_7)) else (sundialref08_Right.j0 k true a0_0 a0_1 a0_2 a0_3 a0_4 a0_5 a0_6 a0_7)) else (sundialref08_Right.j0 k true a0_0 a0_1 a0_2 a0_3 a0_4 a0_5 a0_6 a0_7))
def sundialref08_Right.T2 : Bool × List (List Nat × List Nat) := (true, [([], []), ([], []), ([1], [1]), ([2], [2]), ([0, 3], [0, 3]), ([4, 3], [4]), ([5], [5]), ([6, 5], [5, 6]), ([7, 5], [5, 7]), ([5, 8], [5, 8]), ([9, 5], [9]), ([10], [10]), ([11, 10], [10, 11]), ([12, 10], [10, 12]), ([10, 13], [10, 13]), ([14, 10, 0, 1, 2, 3, 4, 5, 6, 7, 8, 9, 10, 11, 12, 13, 14], [14])])
def sundialref08_Right.B2 : List Nat := [0, 0, 2, 6, 15, 31, 63, 127, 255, 511, 1023, 2047, 4095, 8191, 16383, 32767]
theorem sundialref08_Right.tab2 : rtab .any (opsOf Tryd.f10 2) = sundialref08_Right.T2 := by kernel_rfl
theorem sundialref08_Right.bits2 : waitsOk sundialref08_Right.T2.2 sundialref08_Right.B2 = true := by kernel_rfl
set_option maxHeartbeats 8000000 in
set_option maxRecDepth 100000 in
theorem sundialref08_Right.calls (k : Nat) (a0_0 : Int) (a0_1 : Int) (a0_2 : Int) (a0_3 : Int) (a0_4 : Int) (a0_5 : Int) (a0_6 : Bool) (a0_7 : Int) (r : Bool) (w : World) (h : sundialref08_Right.f k a0_0 a0_1 a0_2 a0_3 a0_4 a0_5 a0_6 a0_7 = some r) :
    Calls Tryd.prog 10 #[.agg #[.int .u8 a0_0, .int .i64 a0_1, .int .i64 a0_2, .int .i64 a0_3, .int .i64 a0_4, .int .i64 a0_5, .bool a0_6, .int .i64 a0_7]] w fun e w' => e = .returned (.bool r) ∧ Below w.heap.size w w' := by
  have hu36 := Tryd.underlying36
  have HB := Aside0.mk (Below.refl w.heap.size w)
  have H : (if a0_0 = 1 then ((sundialref08_Reg.f a0_1).bind fun bt116 => (if (a0_0 == bt116.1 && (a0_1 == bt116.2.1 && (a0_2 == bt116.2.2.1 && (a0_3 == bt116.2.2.2.1 && (a0_4 == bt116.2.2.2.2.1 && (a0_5 == bt116.2.2.2.2.2.1 && (a0_6 == bt116.2.2.2.2.2.2.1 && (a0_7 == bt116.2.2.2.2.2.2.2)))))))) = true then (if a0_1 ≥ 0 then (some (decide (a0_1 < 16))) else (some false)) else (some false))) else (if a0_0 = 2 then (if a0_1 = 0 then (if a0_7 = 0 then (if a0_5 < (-2147483648) then (sundialref08_Right.j0 k true a0_0 a0_1 a0_2 a0_3 a0_4 a0_5 a0_6 a0_7) else (sundialref08_Right.j0 k (decide (a0_5 ≥ 2147483648)) a0_0 a0_1 a0_2 a0_3 a0_4 a0_5 a0_6 a0_7)) else (sundialref08_Right.j0 k true a0_0 a0_1 a0_2 a0_3 a0_4 a0_5 a0_6 a0_7)) else (sundialref08_Right.j0 k true a0_0 a0_1 a0_2 a0_3 a0_4 a0_5 a0_6 a0_7)) else (sundialref08_Right.j0 k true a0_0 a0_1 a0_2 a0_3 a0_4 a0_5 a0_6 a0_7))) = some r := h
  clear h
  by_cases c2 : a0_0 = 1
  · rw [if_pos c2] at H
    have c2b0 : (a0_0 == 1) = true := beq_iff_eq.mpr c2
    have c2b1 : (a0_0 != 1) = false := bne_eq_false_iff_eq.mpr c2
    clear c2
    replace H := Option.bind_eq_some_iff.mp H
    obtain ⟨⟨t116, t117, t118, t119, t120, t121, t122, t123⟩, A30, H⟩ := H
    replace H : (if (a0_0 == t116 && (a0_1 == t117 && (a0_2 == t118 && (a0_3 == t119 && (a0_4 == t120 && (a0_5 == t121 && (a0_6 == t122 && (a0_7 == t123)))))))) = true then (if a0_1 ≥ 0 then (some (decide (a0_1 < 16))) else (some false)) else (some false)) = some r := H
    have A3 := Aside0.mk A30
    clear A30
    by_cases c4 : (a0_0 == t116 && (a0_1 == t117 && (a0_2 == t118 && (a0_3 == t119 && (a0_4 == t120 && (a0_5 == t121 && (a0_6 == t122 && (a0_7 == t123)))))))) = true
    · rw [if_pos c4] at H
      have c4b0 : (a0_0 == t116 && (a0_1 == t117 && (a0_2 == t118 && (a0_3 == t119 && (a0_4 == t120 && (a0_5 == t121 && (a0_6 == t122 && (a0_7 == t123)))))))) = true := c4
      (try (have c4b1 : decide (a0_0 = t116 && (a0_1 == t117 && (a0_2 == t118 && (a0_3 == t119 && (a0_4 == t120 && (a0_5 == t121 && (a0_6 == t122 && (a0_7 == t123)))))))) = true := by simpa using c4))
      (try (have c4b2 : (a0_0 == t116 && (a0_1 == t117 && (a0_2 == t118 && (a0_3 == t119 && (a0_4 == t120 && (a0_5 == t121 && (a0_6 == t122 && (a0_7 == t123)))))))) = true := by simpa using c4))
      clear c4
      by_cases c5 : a0_1 ≥ 0
      · rw [if_pos c5] at H
        have c5b0 : decide (0 ≤ a0_1) = true := decide_eq_true c5
        clear c5
        obtain rfl := Option.some.inj H
        go_enter Tryd.func10, Tryd.ntmps10
        try go_wp2_with (first | ((with_reducible refine gate_dst (N := 1) rfl ?_); refine box_event ?hg (N := 1) ?hd (cs := #[.int .u8 a0_0, .int .i64 a0_1, .int .i64 a0_2, .int .i64 a0_3, .int .i64 a0_4, .int .i64 a0_5, .bool a0_6, .int .i64 a0_7]) (t := 36) ?hr ?_; (case hd => rfl); (case hg => rfl); (case hr => first | (go_simp; done) | (go_simp; rfl)); intro gb115 hg w6 hbox hb; have n0_ := Aside0.mk (below_step (by repeat (first | (with_reducible first | exact HB.out | apply bX_ | apply bW_ | apply bY_) | exact HB.out)) hb); have n1_ := Aside0.mk (hbox); have n2_ := Aside0.mk ((by rw [hg]; exact (below_size (by repeat (first | (with_reducible first | exact HB.out | apply bX_ | apply bW_ | apply bY_) | exact HB.out))) : w.heap.size ≤ gb115)); have n3_ := Aside0.mk ((by rw [hg]; exact (below_size (by repeat (first | (with_reducible first | exact HB.out | apply bX_ | apply bW_ | apply bY_) | exact HB.out))) : w.heap.size ≤ gb115)); clear HB; have HB := n0_; have BK115 := n1_; have GW115 := n2_; have GE115 := n3_; clear n0_ n1_ n2_ n3_; clear hb hbox hg; have hcz7_0 : w6.cell? ⟨gb115, 0, none⟩ = some (.int .u8 a0_0) := (bC_ BK115.out 0).trans rfl; have hcz7_1 : w6.cell? ⟨gb115, 1, none⟩ = some (.int .i64 a0_1) := (bC_ BK115.out 1).trans rfl; have hcz7_2 : w6.cell? ⟨gb115, 2, none⟩ = some (.int .i64 a0_2) := (bC_ BK115.out 2).trans rfl; have hcz7_3 : w6.cell? ⟨gb115, 3, none⟩ = some (.int .i64 a0_3) := (bC_ BK115.out 3).trans rfl; have hcz7_4 : w6.cell? ⟨gb115, 4, none⟩ = some (.int .i64 a0_4) := (bC_ BK115.out 4).trans rfl; have hcz7_5 : w6.cell? ⟨gb115, 5, none⟩ = some (.int .i64 a0_5) := (bC_ BK115.out 5).trans rfl; have hcz7_6 : w6.cell? ⟨gb115, 6, none⟩ = some (.bool a0_6) := (bC_ BK115.out 6).trans rfl; have hcz7_7 : w6.cell? ⟨gb115, 7, none⟩ = some (.int .i64 a0_7) := (bC_ BK115.out 7).trans rfl; have hfz7_0 := bF_ BK115.out 0; have hfz7_1 := bF_ BK115.out 1; have hfz7_2 := bF_ BK115.out 2; have hfz7_3 := bF_ BK115.out 3; have hfz7_4 := bF_ BK115.out 4; have hfz7_5 := bF_ BK115.out 5; have hfz7_6 := bF_ BK115.out 6; have hfz7_7 := bF_ BK115.out 7))
        have n0_ := Aside0.mk (bD_ BK115.out)
        have n1_ := Aside0.mk (bY_ HB.out)
        clear BK115
        clear HB
        have BK115 := n0_
        have HB := n1_
        clear n0_ n1_
        refine start_ (n := 16) (S := fun w' => w'.cell? ⟨gb115, 0, none⟩ = some (.int .u8 a0_0) ∧ w'.cell? ⟨gb115, 1, none⟩ = some (.int .i64 a0_1) ∧ w'.cell? ⟨gb115, 2, none⟩ = some (.int .i64 a0_2) ∧ w'.cell? ⟨gb115, 3, none⟩ = some (.int .i64 a0_3) ∧ w'.cell? ⟨gb115, 4, none⟩ = some (.int .i64 a0_4) ∧ w'.cell? ⟨gb115, 5, none⟩ = some (.int .i64 a0_5) ∧ w'.cell? ⟨gb115, 6, none⟩ = some (.bool a0_6) ∧ w'.cell? ⟨gb115, 7, none⟩ = some (.int .i64 a0_7)) (ds := []) #[false, false, false, false, false, false, false, false, false, false, false, false, false, false, false, false] (by kernel_rfl) rfl rfl ⟨(bC_ BK115.out 0).trans rfl, (bC_ BK115.out 1).trans rfl, (bC_ BK115.out 2).trans rfl, (bC_ BK115.out 3).trans rfl, (bC_ BK115.out 4).trans rfl, (bC_ BK115.out 5).trans rfl, (bC_ BK115.out 6).trans rfl, (bC_ BK115.out 7).trans rfl⟩ (fun hHeld => ?_); refine with_tabW sundialref08_Right.tab2 sundialref08_Right.bits2 (fun HT_ HW_ => ?_)
        generalize w6.drew = w8 at BK115 HB hHeld ⊢
        refine pure_ (i := 1) (N := some 7) (v := ?_) (a' := ?_) #[false, true, false, false, false, false, false, false, false, false, false, false, false, false, false, false] rfl rfl (any_of HT_.out (by kernel_rfl)) (fun _ _ _ h => h) (Or.inl ⟨by rfl, ?_⟩) ?_ ?_
        rotate_left
        · intro w'
          go_simp
          with_reducible rfl
        rotate_left
        · simp only [Act.put, List.setIfInBounds_toArray, List.set_cons_zero, List.set_cons_succ, i64_w, i32_w]
          rfl
        refine take_ (i := 0) (N := some 6) (v := ?_) (a' := ?_) #[true, true, false, false, false, false, false, false, false, false, false, false, false, false, false, false] rfl rfl (take_ofW HT_.out HW_.out (by kernel_rfl)) (fun _ _ _ h => h) (Or.inl ⟨by rfl, ?_⟩) hHeld ?_ ?_
        rotate_left
        · rintro w' ⟨s0, s1, s2, s3, s4, s5, s6, s7⟩
          go_simp
          with_reducible rfl
        rotate_left
        · simp only [Act.put, List.setIfInBounds_toArray, List.set_cons_zero, List.set_cons_succ, i64_w, i32_w]
          rfl
        refine take_ (i := 2) (N := some 8) (v := ?_) (a' := ?_) #[true, true, true, false, false, false, false, false, false, false, false, false, false, false, false, false] rfl rfl (take_ofW HT_.out HW_.out (by kernel_rfl)) (fun _ _ _ h => h) (Or.inl ⟨by rfl, ?_⟩) hHeld ?_ ?_
        rotate_left
        · rintro w' ⟨s0, s1, s2, s3, s4, s5, s6, s7⟩
          go_simp
          with_reducible rfl
        rotate_left
        · simp only [Act.put, List.setIfInBounds_toArray, List.set_cons_zero, List.set_cons_succ, i64_w, i32_w]
          rfl
        refine one_ (i := 3) (N := some 9) #[true, true, true, true, false, false, false, false, false, false, false, false, false, false, false, false] rfl rfl (one_of HT_.out (by kernel_rfl)) (by decide) (fun K hK => ?_)
        refine goes_ Tryd.func16 (by kernel_rfl) rfl #[.int .i64 a0_1] (by rfl) rfl rfl (by (try simp only [List.map_toArray, List.map_cons, List.map_nil]); first | done | rfl | (simp only [List.length_drop, List.length_take]; rfl)) ?_
        with_reducible refine (sundialref08_Reg.calls a0_1 t116 t117 t118 t119 t120 t121 t122 t123 _ A3.out).mono ?_
        rintro e w9 ⟨rfl, hb⟩
        refine ⟨_, rfl, ?_⟩
        have n0_ := Aside0.mk (blk_below (g := gb115) (o := .cells #[.int .u8 a0_0, .int .i64 a0_1, .int .i64 a0_2, .int .i64 a0_3, .int .i64 a0_4, .int .i64 a0_5, .bool a0_6, .int .i64 a0_7] 36 (0, 0)) (by (with_reducible repeat (first | refine bN_ ?_ _ | refine bD_ ?_ | refine bA_ ?_ _)); exact BK115.out) hb)
        have n1_ := Aside0.mk (below_step (by repeat (first | (with_reducible first | exact HB.out | apply bX_ | apply bW_ | apply bY_ | refine bS_ ?_ GE115.out) | exact HB.out)) hb)
        clear BK115
        clear HB
        have BK115 := n0_
        have HB := n1_
        clear n0_ n1_
        (try clear hb)
        (try clear hb2)
        (try clear hk)
        (try clear hi)
        refine hK.out _ _ ⟨(bC_ BK115.out 0).trans rfl, (bC_ BK115.out 1).trans rfl, (bC_ BK115.out 2).trans rfl, (bC_ BK115.out 3).trans rfl, (bC_ BK115.out 4).trans rfl, (bC_ BK115.out 5).trans rfl, (bC_ BK115.out 6).trans rfl, (bC_ BK115.out 7).trans rfl⟩ (fun hHeld => ?_)
        clear hK K
        refine norm_ (a' := ?_) ?_ ?_
        rotate_left
        · show Act.put _ (some 9) _ = _
          simp only [Act.put, List.setIfInBounds_toArray, List.set_cons_zero, List.set_cons_succ, i64_w, i32_w]
          rfl
        refine pure_ (i := 4) (N := some 10) (v := ?_) (a' := ?_) #[true, true, true, true, true, false, false, false, false, false, false, false, false, false, false, false] rfl rfl (any_of HT_.out (by kernel_rfl)) (fun _ _ _ h => h) (Or.inl ⟨by rfl, ?_⟩) ?_ ?_
        rotate_left
        · intro w'
          go_simp
          with_reducible rfl
        rotate_left
        · simp only [Act.put, List.setIfInBounds_toArray, List.set_cons_zero, List.set_cons_succ, i64_w, i32_w]
          rfl
        refine pure_ (i := 5) (N := some 11) (v := ?_) (a' := ?_) #[true, true, true, true, true, true, false, false, false, false, false, false, false, false, false, false] rfl rfl (any_of HT_.out (by kernel_rfl)) (fun _ _ _ h => h) (Or.inl ⟨by rfl, ?_⟩) ?_ ?_
        rotate_left
        · intro w'
          go_simp
          with_reducible rfl
        rotate_left
        · simp only [Act.put, List.setIfInBounds_toArray, List.set_cons_zero, List.set_cons_succ, i64_w, i32_w]
          rfl
        refine pure_ (i := 6) (N := some 12) (v := ?_) (a' := ?_) #[true, true, true, true, true, true, true, false, false, false, false, false, false, false, false, false] rfl rfl (any_of HT_.out (by kernel_rfl)) (fun _ _ _ h => h) (Or.inl ⟨by rfl, ?_⟩) ?_ ?_
        rotate_left
        · intro w'
          go_simp
          with_reducible rfl
        rotate_left
        · simp only [Act.put, List.setIfInBounds_toArray, List.set_cons_zero, List.set_cons_succ, i64_w, i32_w]
          rfl
        refine take_ (i := 7) (N := some 13) (v := ?_) (a' := ?_) #[true, true, true, true, true, true, true, true, false, false, false, false, false, false, false, false] rfl rfl (take_ofW HT_.out HW_.out (by kernel_rfl)) (fun _ _ _ h => h) (Or.inl ⟨by rfl, ?_⟩) hHeld ?_ ?_
        rotate_left
        · rintro w' ⟨s0, s1, s2, s3, s4, s5, s6, s7⟩
          go_simp
          with_reducible rfl
        rotate_left
        · simp only [Act.put, List.setIfInBounds_toArray, List.set_cons_zero, List.set_cons_succ, i64_w, i32_w]
          rfl
        refine pure_ (i := 8) (N := some 14) (v := ?_) (a' := ?_) #[true, true, true, true, true, true, true, true, true, false, false, false, false, false, false, false] rfl rfl (any_of HT_.out (by kernel_rfl)) (fun _ _ _ h => h) (Or.inl ⟨by rfl, ?_⟩) ?_ ?_
        rotate_left
        · intro w'
          go_simp
          with_reducible rfl
        rotate_left
        · simp only [Act.put, List.setIfInBounds_toArray, List.set_cons_zero, List.set_cons_succ, i64_w, i32_w]
          rfl
        refine pure_ (i := 9) (N := some 15) (v := ?_) (a' := ?_) #[true, true, true, true, true, true, true, true, true, true, false, false, false, false, false, false] rfl rfl (any_of HT_.out (by kernel_rfl)) (fun _ _ _ h => h) (Or.inl ⟨by rfl, ?_⟩) ?_ ?_
        rotate_left
        · intro w'
          go_simp
          with_reducible rfl
        rotate_left
        · simp only [Act.put, List.setIfInBounds_toArray, List.set_cons_zero, List.set_cons_succ, i64_w, i32_w]
          rfl
        refine pure_ (i := 10) (N := some 16) (v := ?_) (a' := ?_) #[true, true, true, true, true, true, true, true, true, true, true, false, false, false, false, false] rfl rfl (any_of HT_.out (by kernel_rfl)) (fun _ _ _ h => h) (Or.inl ⟨by rfl, ?_⟩) ?_ ?_
        rotate_left
        · intro w'
          go_simp
          with_reducible rfl
        rotate_left
        · simp only [Act.put, List.setIfInBounds_toArray, List.set_cons_zero, List.set_cons_succ, i64_w, i32_w]
          rfl
        refine pure_ (i := 11) (N := some 17) (v := ?_) (a' := ?_) #[true, true, true, true, true, true, true, true, true, true, true, true, false, false, false, false] rfl rfl (any_of HT_.out (by kernel_rfl)) (fun _ _ _ h => h) (Or.inl ⟨by rfl, ?_⟩) ?_ ?_
        rotate_left
        · intro w'
          go_simp
          with_reducible rfl
        rotate_left
        · simp only [Act.put, List.setIfInBounds_toArray, List.set_cons_zero, List.set_cons_succ, i64_w, i32_w]
          rfl
        refine take_ (i := 12) (N := some 18) (v := ?_) (a' := ?_) #[true, true, true, true, true, true, true, true, true, true, true, true, true, false, false, false] rfl rfl (take_ofW HT_.out HW_.out (by kernel_rfl)) (fun _ _ _ h => h) (Or.inl ⟨by rfl, ?_⟩) hHeld ?_ ?_
        rotate_left
        · rintro w' ⟨s0, s1, s2, s3, s4, s5, s6, s7⟩
          go_simp
          with_reducible rfl
        rotate_left
        · simp only [Act.put, List.setIfInBounds_toArray, List.set_cons_zero, List.set_cons_succ, i64_w, i32_w]
          rfl
        refine pure_ (i := 13) (N := some 19) (v := ?_) (a' := ?_) #[true, true, true, true, true, true, true, true, true, true, true, true, true, true, false, false] rfl rfl (any_of HT_.out (by kernel_rfl)) (fun _ _ _ h => h) (Or.inl ⟨by rfl, ?_⟩) ?_ ?_
        rotate_left
        · intro w'
          go_simp
          with_reducible rfl
        rotate_left
        · simp only [Act.put, List.setIfInBounds_toArray, List.set_cons_zero, List.set_cons_succ, i64_w, i32_w]
          rfl
        refine pure_ (i := 14) (N := some 20) (v := ?_) (a' := ?_) #[true, true, true, true, true, true, true, true, true, true, true, true, true, true, true, false] rfl rfl (any_of HT_.out (by kernel_rfl)) (fun _ _ _ h => h) (Or.inl ⟨by rfl, ?_⟩) ?_ ?_
        rotate_left
        · intro w'
          go_simp
          with_reducible rfl
        rotate_left
        · simp only [Act.put, List.setIfInBounds_toArray, List.set_cons_zero, List.set_cons_succ, i64_w, i32_w]
          rfl
        refine pure_ (i := 15) (N := some 2) (v := ?_) (a' := ?_) #[true, true, true, true, true, true, true, true, true, true, true, true, true, true, true, true] rfl rfl (any_of HT_.out (by kernel_rfl)) (fun _ _ _ h => h) (Or.inl ⟨by rfl, ?_⟩) ?_ ?_
        rotate_left
        · intro w'
          go_simp
          with_reducible rfl
        rotate_left
        · simp only [Act.put, List.setIfInBounds_toArray, List.set_cons_zero, List.set_cons_succ, i64_w, i32_w]
          rfl
        refine done_ (done_of HT_.out (by kernel_rfl)) ?_
        try go_wp2
        go_ret
        exact ⟨by first | rfl | (simp [errW_none, errW_some] <;> rfl) | (simp [*, errW_none, errW_some] <;> rfl), by repeat (first | (with_reducible first | exact HB.out | apply bX_ | apply bW_ | apply bY_ | refine bS_ ?_ GE115.out) | exact HB.out)⟩
      · rw [if_neg c5] at H
        have c5b0 : decide (0 ≤ a0_1) = false := decide_eq_false c5
        clear c5
        obtain rfl := Option.some.inj H
        go_enter Tryd.func10, Tryd.ntmps10
        try go_wp2_with (first | ((with_reducible refine gate_dst (N := 1) rfl ?_); refine box_event ?hg (N := 1) ?hd (cs := #[.int .u8 a0_0, .int .i64 a0_1, .int .i64 a0_2, .int .i64 a0_3, .int .i64 a0_4, .int .i64 a0_5, .bool a0_6, .int .i64 a0_7]) (t := 36) ?hr ?_; (case hd => rfl); (case hg => rfl); (case hr => first | (go_simp; done) | (go_simp; rfl)); intro gb115 hg w10 hbox hb; have n0_ := Aside0.mk (below_step (by repeat (first | (with_reducible first | exact HB.out | apply bX_ | apply bW_ | apply bY_) | exact HB.out)) hb); have n1_ := Aside0.mk (hbox); have n2_ := Aside0.mk ((by rw [hg]; exact (below_size (by repeat (first | (with_reducible first | exact HB.out | apply bX_ | apply bW_ | apply bY_) | exact HB.out))) : w.heap.size ≤ gb115)); have n3_ := Aside0.mk ((by rw [hg]; exact (below_size (by repeat (first | (with_reducible first | exact HB.out | apply bX_ | apply bW_ | apply bY_) | exact HB.out))) : w.heap.size ≤ gb115)); clear HB; have HB := n0_; have BK115 := n1_; have GW115 := n2_; have GE115 := n3_; clear n0_ n1_ n2_ n3_; clear hb hbox hg; have hcz11_0 : w10.cell? ⟨gb115, 0, none⟩ = some (.int .u8 a0_0) := (bC_ BK115.out 0).trans rfl; have hcz11_1 : w10.cell? ⟨gb115, 1, none⟩ = some (.int .i64 a0_1) := (bC_ BK115.out 1).trans rfl; have hcz11_2 : w10.cell? ⟨gb115, 2, none⟩ = some (.int .i64 a0_2) := (bC_ BK115.out 2).trans rfl; have hcz11_3 : w10.cell? ⟨gb115, 3, none⟩ = some (.int .i64 a0_3) := (bC_ BK115.out 3).trans rfl; have hcz11_4 : w10.cell? ⟨gb115, 4, none⟩ = some (.int .i64 a0_4) := (bC_ BK115.out 4).trans rfl; have hcz11_5 : w10.cell? ⟨gb115, 5, none⟩ = some (.int .i64 a0_5) := (bC_ BK115.out 5).trans rfl; have hcz11_6 : w10.cell? ⟨gb115, 6, none⟩ = some (.bool a0_6) := (bC_ BK115.out 6).trans rfl; have hcz11_7 : w10.cell? ⟨gb115, 7, none⟩ = some (.int .i64 a0_7) := (bC_ BK115.out 7).trans rfl; have hfz11_0 := bF_ BK115.out 0; have hfz11_1 := bF_ BK115.out 1; have hfz11_2 := bF_ BK115.out 2; have hfz11_3 := bF_ BK115.out 3; have hfz11_4 := bF_ BK115.out 4; have hfz11_5 := bF_ BK115.out 5; have hfz11_6 := bF_ BK115.out 6; have hfz11_7 := bF_ BK115.out 7))
        have n0_ := Aside0.mk (bD_ BK115.out)
        have n1_ := Aside0.mk (bY_ HB.out)
        clear BK115
        clear HB
        have BK115 := n0_
        have HB := n1_
        clear n0_ n1_
        refine start_ (n := 16) (S := fun w' => w'.cell? ⟨gb115, 0, none⟩ = some (.int .u8 a0_0) ∧ w'.cell? ⟨gb115, 1, none⟩ = some (.int .i64 a0_1) ∧ w'.cell? ⟨gb115, 2, none⟩ = some (.int .i64 a0_2) ∧ w'.cell? ⟨gb115, 3, none⟩ = some (.int .i64 a0_3) ∧ w'.cell? ⟨gb115, 4, none⟩ = some (.int .i64 a0_4) ∧ w'.cell? ⟨gb115, 5, none⟩ = some (.int .i64 a0_5) ∧ w'.cell? ⟨gb115, 6, none⟩ = some (.bool a0_6) ∧ w'.cell? ⟨gb115, 7, none⟩ = some (.int .i64 a0_7)) (ds := []) #[false, false, false, false, false, false, false, false, false, false, false, false, false, false, false, false] (by kernel_rfl) rfl rfl ⟨(bC_ BK115.out 0).trans rfl, (bC_ BK115.out 1).trans rfl, (bC_ BK115.out 2).trans rfl, (bC_ BK115.out 3).trans rfl, (bC_ BK115.out 4).trans rfl, (bC_ BK115.out 5).trans rfl, (bC_ BK115.out 6).trans rfl, (bC_ BK115.out 7).trans rfl⟩ (fun hHeld => ?_); refine with_tabW sundialref08_Right.tab2 sundialref08_Right.bits2 (fun HT_ HW_ => ?_)
        generalize w10.drew = w12 at BK115 HB hHeld ⊢
        refine pure_ (i := 1) (N := some 7) (v := ?_) (a' := ?_) #[false, true, false, false, false, false, false, false, false, false, false, false, false, false, false, false] rfl rfl (any_of HT_.out (by kernel_rfl)) (fun _ _ _ h => h) (Or.inl ⟨by rfl, ?_⟩) ?_ ?_
        rotate_left
        · intro w'
          go_simp
          with_reducible rfl
        rotate_left
        · simp only [Act.put, List.setIfInBounds_toArray, List.set_cons_zero, List.set_cons_succ, i64_w, i32_w]
          rfl
        refine take_ (i := 0) (N := some 6) (v := ?_) (a' := ?_) #[true, true, false, false, false, false, false, false, false, false, false, false, false, false, false, false] rfl rfl (take_ofW HT_.out HW_.out (by kernel_rfl)) (fun _ _ _ h => h) (Or.inl ⟨by rfl, ?_⟩) hHeld ?_ ?_
        rotate_left
        · rintro w' ⟨s0, s1, s2, s3, s4, s5, s6, s7⟩
          go_simp
          with_reducible rfl
        rotate_left
        · simp only [Act.put, List.setIfInBounds_toArray, List.set_cons_zero, List.set_cons_succ, i64_w, i32_w]
          rfl
        refine take_ (i := 2) (N := some 8) (v := ?_) (a' := ?_) #[true, true, true, false, false, false, false, false, false, false, false, false, false, false, false, false] rfl rfl (take_ofW HT_.out HW_.out (by kernel_rfl)) (fun _ _ _ h => h) (Or.inl ⟨by rfl, ?_⟩) hHeld ?_ ?_
        rotate_left
        · rintro w' ⟨s0, s1, s2, s3, s4, s5, s6, s7⟩
          go_simp
          with_reducible rfl
        rotate_left
        · simp only [Act.put, List.setIfInBounds_toArray, List.set_cons_zero, List.set_cons_succ, i64_w, i32_w]
          rfl
        refine one_ (i := 3) (N := some 9) #[true, true, true, true, false, false, false, false, false, false, false, false, false, false, false, false] rfl rfl (one_of HT_.out (by kernel_rfl)) (by decide) (fun K hK => ?_)
        refine goes_ Tryd.func16 (by kernel_rfl) rfl #[.int .i64 a0_1] (by rfl) rfl rfl (by (try simp only [List.map_toArray, List.map_cons, List.map_nil]); first | done | rfl | (simp only [List.length_drop, List.length_take]; rfl)) ?_
        with_reducible refine (sundialref08_Reg.calls a0_1 t116 t117 t118 t119 t120 t121 t122 t123 _ A3.out).mono ?_
        rintro e w13 ⟨rfl, hb⟩
        refine ⟨_, rfl, ?_⟩
        have n0_ := Aside0.mk (blk_below (g := gb115) (o := .cells #[.int .u8 a0_0, .int .i64 a0_1, .int .i64 a0_2, .int .i64 a0_3, .int .i64 a0_4, .int .i64 a0_5, .bool a0_6, .int .i64 a0_7] 36 (0, 0)) (by (with_reducible repeat (first | refine bN_ ?_ _ | refine bD_ ?_ | refine bA_ ?_ _)); exact BK115.out) hb)
        have n1_ := Aside0.mk (below_step (by repeat (first | (with_reducible first | exact HB.out | apply bX_ | apply bW_ | apply bY_ | refine bS_ ?_ GE115.out) | exact HB.out)) hb)
        clear BK115
        clear HB
        have BK115 := n0_
        have HB := n1_
        clear n0_ n1_
        (try clear hb)
        (try clear hb2)
        (try clear hk)
        (try clear hi)
        refine hK.out _ _ ⟨(bC_ BK115.out 0).trans rfl, (bC_ BK115.out 1).trans rfl, (bC_ BK115.out 2).trans rfl, (bC_ BK115.out 3).trans rfl, (bC_ BK115.out 4).trans rfl, (bC_ BK115.out 5).trans rfl, (bC_ BK115.out 6).trans rfl, (bC_ BK115.out 7).trans rfl⟩ (fun hHeld => ?_)
        clear hK K
        refine norm_ (a' := ?_) ?_ ?_
        rotate_left
        · show Act.put _ (some 9) _ = _
          simp only [Act.put, List.setIfInBounds_toArray, List.set_cons_zero, List.set_cons_succ, i64_w, i32_w]
          rfl
        refine pure_ (i := 4) (N := some 10) (v := ?_) (a' := ?_) #[true, true, true, true, true, false, false, false, false, false, false, false, false, false, false, false] rfl rfl (any_of HT_.out (by kernel_rfl)) (fun _ _ _ h => h) (Or.inl ⟨by rfl, ?_⟩) ?_ ?_
        rotate_left
        · intro w'
          go_simp
          with_reducible rfl
        rotate_left
        · simp only [Act.put, List.setIfInBounds_toArray, List.set_cons_zero, List.set_cons_succ, i64_w, i32_w]
          rfl
        refine pure_ (i := 5) (N := some 11) (v := ?_) (a' := ?_) #[true, true, true, true, true, true, false, false, false, false, false, false, false, false, false, false] rfl rfl (any_of HT_.out (by kernel_rfl)) (fun _ _ _ h => h) (Or.inl ⟨by rfl, ?_⟩) ?_ ?_
        rotate_left
        · intro w'
          go_simp
          with_reducible rfl
        rotate_left
        · simp only [Act.put, List.setIfInBounds_toArray, List.set_cons_zero, List.set_cons_succ, i64_w, i32_w]
          rfl
        refine pure_ (i := 6) (N := some 12) (v := ?_) (a' := ?_) #[true, true, true, true, true, true, true, false, false, false, false, false, false, false, false, false] rfl rfl (any_of HT_.out (by kernel_rfl)) (fun _ _ _ h => h) (Or.inl ⟨by rfl, ?_⟩) ?_ ?_
        rotate_left
        · intro w'
          go_simp
          with_reducible rfl
        rotate_left
        · simp only [Act.put, List.setIfInBounds_toArray, List.set_cons_zero, List.set_cons_succ, i64_w, i32_w]
          rfl
        refine take_ (i := 7) (N := some 13) (v := ?_) (a' := ?_) #[true, true, true, true, true, true, true, true, false, false, false, false, false, false, false, false] rfl rfl (take_ofW HT_.out HW_.out (by kernel_rfl)) (fun _ _ _ h => h) (Or.inl ⟨by rfl, ?_⟩) hHeld ?_ ?_
        rotate_left
        · rintro w' ⟨s0, s1, s2, s3, s4, s5, s6, s7⟩
          go_simp
          with_reducible rfl
        rotate_left
        · simp only [Act.put, List.setIfInBounds_toArray, List.set_cons_zero, List.set_cons_succ, i64_w, i32_w]
          rfl
        refine pure_ (i := 8) (N := some 14) (v := ?_) (a' := ?_) #[true, true, true, true, true, true, true, true, true, false, false, false, false, false, false, false] rfl rfl (any_of HT_.out (by kernel_rfl)) (fun _ _ _ h => h) (Or.inl ⟨by rfl, ?_⟩) ?_ ?_
        rotate_left
        · intro w'
          go_simp
          with_reducible rfl
        rotate_left
        · simp only [Act.put, List.setIfInBounds_toArray, List.set_cons_zero, List.set_cons_succ, i64_w, i32_w]
          rfl
        refine pure_ (i := 9) (N := some 15) (v := ?_) (a' := ?_) #[true, true, true, true, true, true, true, true, true, true, false, false, false, false, false, false] rfl rfl (any_of HT_.out (by kernel_rfl)) (fun _ _ _ h => h) (Or.inl ⟨by rfl, ?_⟩) ?_ ?_
        rotate_left
        · intro w'
          go_simp
          with_reducible rfl
        rotate_left
        · simp only [Act.put, List.setIfInBounds_toArray, List.set_cons_zero, List.set_cons_succ, i64_w, i32_w]
          rfl
        refine pure_ (i := 10) (N := some 16) (v := ?_) (a' := ?_) #[true, true, true, true, true, true, true, true, true, true, true, false, false, false, false, false] rfl rfl (any_of HT_.out (by kernel_rfl)) (fun _ _ _ h => h) (Or.inl ⟨by rfl, ?_⟩) ?_ ?_
        rotate_left
        · intro w'
          go_simp
          with_reducible rfl
        rotate_left
        · simp only [Act.put, List.setIfInBounds_toArray, List.set_cons_zero, List.set_cons_succ, i64_w, i32_w]
          rfl
        refine pure_ (i := 11) (N := some 17) (v := undef) (a' := ?_) #[true, true, true, true, true, true, true, true, true, true, true, true, false, false, false, false] rfl rfl (any_of HT_.out (by kernel_rfl)) (fun _ _ _ h => h) (Or.inr ⟨by rfl, rfl⟩) ?_ ?_
        rotate_left
        · simp only [Act.put, List.setIfInBounds_toArray, List.set_cons_zero, List.set_cons_succ, i64_w, i32_w]
          rfl
        refine pure_ (i := 12) (N := some 18) (v := undef) (a' := ?_) #[true, true, true, true, true, true, true, true, true, true, true, true, true, false, false, false] rfl rfl (any_of HT_.out (by kernel_rfl)) (fun _ _ _ h => h) (Or.inr ⟨by rfl, rfl⟩) ?_ ?_
        rotate_left
        · simp only [Act.put, List.setIfInBounds_toArray, List.set_cons_zero, List.set_cons_succ, i64_w, i32_w]
          rfl
        refine pure_ (i := 13) (N := some 19) (v := undef) (a' := ?_) #[true, true, true, true, true, true, true, true, true, true, true, true, true, true, false, false] rfl rfl (any_of HT_.out (by kernel_rfl)) (fun _ _ _ h => h) (Or.inr ⟨by rfl, rfl⟩) ?_ ?_
        rotate_left
        · simp only [Act.put, List.setIfInBounds_toArray, List.set_cons_zero, List.set_cons_succ, i64_w, i32_w]
          rfl
        refine pure_ (i := 14) (N := some 20) (v := ?_) (a' := ?_) #[true, true, true, true, true, true, true, true, true, true, true, true, true, true, true, false] rfl rfl (any_of HT_.out (by kernel_rfl)) (fun _ _ _ h => h) (Or.inl ⟨by rfl, ?_⟩) ?_ ?_
        rotate_left
        · intro w'
          go_simp
          with_reducible rfl
        rotate_left
        · simp only [Act.put, List.setIfInBounds_toArray, List.set_cons_zero, List.set_cons_succ, i64_w, i32_w]
          rfl
        refine pure_ (i := 15) (N := some 2) (v := ?_) (a' := ?_) #[true, true, true, true, true, true, true, true, true, true, true, true, true, true, true, true] rfl rfl (any_of HT_.out (by kernel_rfl)) (fun _ _ _ h => h) (Or.inl ⟨by rfl, ?_⟩) ?_ ?_
        rotate_left
        · intro w'
          go_simp
          with_reducible rfl
        rotate_left
        · simp only [Act.put, List.setIfInBounds_toArray, List.set_cons_zero, List.set_cons_succ, i64_w, i32_w]
          rfl
        refine done_ (done_of HT_.out (by kernel_rfl)) ?_
        try go_wp2
        go_ret
        exact ⟨by first | rfl | (simp [errW_none, errW_some] <;> rfl) | (simp [*, errW_none, errW_some] <;> rfl), by repeat (first | (with_reducible first | exact HB.out | apply bX_ | apply bW_ | apply bY_ | refine bS_ ?_ GE115.out) | exact HB.out)⟩
    · rw [if_neg c4] at H
      have c4b0 : (a0_0 == t116 && (a0_1 == t117 && (a0_2 == t118 && (a0_3 == t119 && (a0_4 == t120 && (a0_5 == t121 && (a0_6 == t122 && (a0_7 == t123)))))))) = false := by simpa using c4
      (try (have c4b1 : decide (a0_0 = t116 && (a0_1 == t117 && (a0_2 == t118 && (a0_3 == t119 && (a0_4 == t120 && (a0_5 == t121 && (a0_6 == t122 && (a0_7 == t123)))))))) = false := by simpa using c4))
      (try (have c4b2 : (a0_0 == t116 && (a0_1 == t117 && (a0_2 == t118 && (a0_3 == t119 && (a0_4 == t120 && (a0_5 == t121 && (a0_6 == t122 && (a0_7 == t123)))))))) = false := by simpa using c4))
      (try (have c4b3 : ¬ (a0_0 = t116 && (a0_1 == t117 && (a0_2 == t118 && (a0_3 == t119 && (a0_4 == t120 && (a0_5 == t121 && (a0_6 == t122 && (a0_7 == t123)))))))) := by simpa using c4))
      clear c4
      obtain rfl := Option.some.inj H
      go_enter Tryd.func10, Tryd.ntmps10
      try go_wp2_with (first | ((with_reducible refine gate_dst (N := 1) rfl ?_); refine box_event ?hg (N := 1) ?hd (cs := #[.int .u8 a0_0, .int .i64 a0_1, .int .i64 a0_2, .int .i64 a0_3, .int .i64 a0_4, .int .i64 a0_5, .bool a0_6, .int .i64 a0_7]) (t := 36) ?hr ?_; (case hd => rfl); (case hg => rfl); (case hr => first | (go_simp; done) | (go_simp; rfl)); intro gb115 hg w14 hbox hb; have n0_ := Aside0.mk (below_step (by repeat (first | (with_reducible first | exact HB.out | apply bX_ | apply bW_ | apply bY_) | exact HB.out)) hb); have n1_ := Aside0.mk (hbox); have n2_ := Aside0.mk ((by rw [hg]; exact (below_size (by repeat (first | (with_reducible first | exact HB.out | apply bX_ | apply bW_ | apply bY_) | exact HB.out))) : w.heap.size ≤ gb115)); have n3_ := Aside0.mk ((by rw [hg]; exact (below_size (by repeat (first | (with_reducible first | exact HB.out | apply bX_ | apply bW_ | apply bY_) | exact HB.out))) : w.heap.size ≤ gb115)); clear HB; have HB := n0_; have BK115 := n1_; have GW115 := n2_; have GE115 := n3_; clear n0_ n1_ n2_ n3_; clear hb hbox hg; have hcz15_0 : w14.cell? ⟨gb115, 0, none⟩ = some (.int .u8 a0_0) := (bC_ BK115.out 0).trans rfl; have hcz15_1 : w14.cell? ⟨gb115, 1, none⟩ = some (.int .i64 a0_1) := (bC_ BK115.out 1).trans rfl; have hcz15_2 : w14.cell? ⟨gb115, 2, none⟩ = some (.int .i64 a0_2) := (bC_ BK115.out 2).trans rfl; have hcz15_3 : w14.cell? ⟨gb115, 3, none⟩ = some (.int .i64 a0_3) := (bC_ BK115.out 3).trans rfl; have hcz15_4 : w14.cell? ⟨gb115, 4, none⟩ = some (.int .i64 a0_4) := (bC_ BK115.out 4).trans rfl; have hcz15_5 : w14.cell? ⟨gb115, 5, none⟩ = some (.int .i64 a0_5) := (bC_ BK115.out 5).trans rfl; have hcz15_6 : w14.cell? ⟨gb115, 6, none⟩ = some (.bool a0_6) := (bC_ BK115.out 6).trans rfl; have hcz15_7 : w14.cell? ⟨gb115, 7, none⟩ = some (.int .i64 a0_7) := (bC_ BK115.out 7).trans rfl; have hfz15_0 := bF_ BK115.out 0; have hfz15_1 := bF_ BK115.out 1; have hfz15_2 := bF_ BK115.out 2; have hfz15_3 := bF_ BK115.out 3; have hfz15_4 := bF_ BK115.out 4; have hfz15_5 := bF_ BK115.out 5; have hfz15_6 := bF_ BK115.out 6; have hfz15_7 := bF_ BK115.out 7))
      have n0_ := Aside0.mk (bD_ BK115.out)
      have n1_ := Aside0.mk (bY_ HB.out)
      clear BK115
      clear HB
      have BK115 := n0_
      have HB := n1_
      clear n0_ n1_
      refine start_ (n := 16) (S := fun w' => w'.cell? ⟨gb115, 0, none⟩ = some (.int .u8 a0_0) ∧ w'.cell? ⟨gb115, 1, none⟩ = some (.int .i64 a0_1) ∧ w'.cell? ⟨gb115, 2, none⟩ = some (.int .i64 a0_2) ∧ w'.cell? ⟨gb115, 3, none⟩ = some (.int .i64 a0_3) ∧ w'.cell? ⟨gb115, 4, none⟩ = some (.int .i64 a0_4) ∧ w'.cell? ⟨gb115, 5, none⟩ = some (.int .i64 a0_5) ∧ w'.cell? ⟨gb115, 6, none⟩ = some (.bool a0_6) ∧ w'.cell? ⟨gb115, 7, none⟩ = some (.int .i64 a0_7)) (ds := []) #[false, false, false, false, false, false, false, false, false, false, false, false, false, false, false, false] (by kernel_rfl) rfl rfl ⟨(bC_ BK115.out 0).trans rfl, (bC_ BK115.out 1).trans rfl, (bC_ BK115.out 2).trans rfl, (bC_ BK115.out 3).trans rfl, (bC_ BK115.out 4).trans rfl, (bC_ BK115.out 5).trans rfl, (bC_ BK115.out 6).trans rfl, (bC_ BK115.out 7).trans rfl⟩ (fun hHeld => ?_); refine with_tabW sundialref08_Right.tab2 sundialref08_Right.bits2 (fun HT_ HW_ => ?_)
      generalize w14.drew = w16 at BK115 HB hHeld ⊢
      refine pure_ (i := 1) (N := some 7) (v := ?_) (a' := ?_) #[false, true, false, false, false, false, false, false, false, false, false, false, false, false, false, false] rfl rfl (any_of HT_.out (by kernel_rfl)) (fun _ _ _ h => h) (Or.inl ⟨by rfl, ?_⟩) ?_ ?_
      rotate_left
      · intro w'
        go_simp
        with_reducible rfl
      rotate_left
      · simp only [Act.put, List.setIfInBounds_toArray, List.set_cons_zero, List.set_cons_succ, i64_w, i32_w]
        rfl
      refine take_ (i := 0) (N := some 6) (v := ?_) (a' := ?_) #[true, true, false, false, false, false, false, false, false, false, false, false, false, false, false, false] rfl rfl (take_ofW HT_.out HW_.out (by kernel_rfl)) (fun _ _ _ h => h) (Or.inl ⟨by rfl, ?_⟩) hHeld ?_ ?_
      rotate_left
      · rintro w' ⟨s0, s1, s2, s3, s4, s5, s6, s7⟩
        go_simp
        with_reducible rfl
      rotate_left
      · simp only [Act.put, List.setIfInBounds_toArray, List.set_cons_zero, List.set_cons_succ, i64_w, i32_w]
        rfl
      refine take_ (i := 2) (N := some 8) (v := ?_) (a' := ?_) #[true, true, true, false, false, false, false, false, false, false, false, false, false, false, false, false] rfl rfl (take_ofW HT_.out HW_.out (by kernel_rfl)) (fun _ _ _ h => h) (Or.inl ⟨by rfl, ?_⟩) hHeld ?_ ?_
      rotate_left
      · rintro w' ⟨s0, s1, s2, s3, s4, s5, s6, s7⟩
        go_simp
        with_reducible rfl
      rotate_left
      · simp only [Act.put, List.setIfInBounds_toArray, List.set_cons_zero, List.set_cons_succ, i64_w, i32_w]
        rfl
      refine one_ (i := 3) (N := some 9) #[true, true, true, true, false, false, false, false, false, false, false, false, false, false, false, false] rfl rfl (one_of HT_.out (by kernel_rfl)) (by decide) (fun K hK => ?_)
      refine goes_ Tryd.func16 (by kernel_rfl) rfl #[.int .i64 a0_1] (by rfl) rfl rfl (by (try simp only [List.map_toArray, List.map_cons, List.map_nil]); first | done | rfl | (simp only [List.length_drop, List.length_take]; rfl)) ?_
      with_reducible refine (sundialref08_Reg.calls a0_1 t116 t117 t118 t119 t120 t121 t122 t123 _ A3.out).mono ?_
      rintro e w17 ⟨rfl, hb⟩
      refine ⟨_, rfl, ?_⟩
      have n0_ := Aside0.mk (blk_below (g := gb115) (o := .cells #[.int .u8 a0_0, .int .i64 a0_1, .int .i64 a0_2, .int .i64 a0_3, .int .i64 a0_4, .int .i64 a0_5, .bool a0_6, .int .i64 a0_7] 36 (0, 0)) (by (with_reducible repeat (first | refine bN_ ?_ _ | refine bD_ ?_ | refine bA_ ?_ _)); exact BK115.out) hb)
      have n1_ := Aside0.mk (below_step (by repeat (first | (with_reducible first | exact HB.out | apply bX_ | apply bW_ | apply bY_ | refine bS_ ?_ GE115.out) | exact HB.out)) hb)
      clear BK115
      clear HB
      have BK115 := n0_
      have HB := n1_
      clear n0_ n1_
      (try clear hb)
      (try clear hb2)
      (try clear hk)
      (try clear hi)
      refine hK.out _ _ ⟨(bC_ BK115.out 0).trans rfl, (bC_ BK115.out 1).trans rfl, (bC_ BK115.out 2).trans rfl, (bC_ BK115.out 3).trans rfl, (bC_ BK115.out 4).trans rfl, (bC_ BK115.out 5).trans rfl, (bC_ BK115.out 6).trans rfl, (bC_ BK115.out 7).trans rfl⟩ (fun hHeld => ?_)
      clear hK K
      refine norm_ (a' := ?_) ?_ ?_
      rotate_left
      · show Act.put _ (some 9) _ = _
        simp only [Act.put, List.setIfInBounds_toArray, List.set_cons_zero, List.set_cons_succ, i64_w, i32_w]
        rfl
      refine pure_ (i := 4) (N := some 10) (v := ?_) (a' := ?_) #[true, true, true, true, true, false, false, false, false, false, false, false, false, false, false, false] rfl rfl (any_of HT_.out (by kernel_rfl)) (fun _ _ _ h => h) (Or.inl ⟨by rfl, ?_⟩) ?_ ?_
      rotate_left
      · intro w'
        go_simp
        with_reducible rfl
      rotate_left
      · simp only [Act.put, List.setIfInBounds_toArray, List.set_cons_zero, List.set_cons_succ, i64_w, i32_w]
        rfl
      refine pure_ (i := 5) (N := some 11) (v := ?_) (a' := ?_) #[true, true, true, true, true, true, false, false, false, false, false, false, false, false, false, false] rfl rfl (any_of HT_.out (by kernel_rfl)) (fun _ _ _ h => h) (Or.inl ⟨by rfl, ?_⟩) ?_ ?_
      rotate_left
      · intro w'
        go_simp
        with_reducible rfl
      rotate_left
      · simp only [Act.put, List.setIfInBounds_toArray, List.set_cons_zero, List.set_cons_succ, i64_w, i32_w]
        rfl
      refine pure_ (i := 6) (N := some 12) (v := undef) (a' := ?_) #[true, true, true, true, true, true, true, false, false, false, false, false, false, false, false, false] rfl rfl (any_of HT_.out (by kernel_rfl)) (fun _ _ _ h => h) (Or.inr ⟨by rfl, rfl⟩) ?_ ?_
      rotate_left
      · simp only [Act.put, List.setIfInBounds_toArray, List.set_cons_zero, List.set_cons_succ, i64_w, i32_w]
        rfl
      refine pure_ (i := 7) (N := some 13) (v := undef) (a' := ?_) #[true, true, true, true, true, true, true, true, false, false, false, false, false, false, false, false] rfl rfl (any_of HT_.out (by kernel_rfl)) (fun _ _ _ h => h) (Or.inr ⟨by rfl, rfl⟩) ?_ ?_
      rotate_left
      · simp only [Act.put, List.setIfInBounds_toArray, List.set_cons_zero, List.set_cons_succ, i64_w, i32_w]
        rfl
      refine pure_ (i := 8) (N := some 14) (v := undef) (a' := ?_) #[true, true, true, true, true, true, true, true, true, false, false, false, false, false, false, false] rfl rfl (any_of HT_.out (by kernel_rfl)) (fun _ _ _ h => h) (Or.inr ⟨by rfl, rfl⟩) ?_ ?_
      rotate_left
      · simp only [Act.put, List.setIfInBounds_toArray, List.set_cons_zero, List.set_cons_succ, i64_w, i32_w]
        rfl
      refine pure_ (i := 9) (N := some 15) (v := ?_) (a' := ?_) #[true, true, true, true, true, true, true, true, true, true, false, false, false, false, false, false] rfl rfl (any_of HT_.out (by kernel_rfl)) (fun _ _ _ h => h) (Or.inl ⟨by rfl, ?_⟩) ?_ ?_
      rotate_left
      · intro w'
        go_simp
        with_reducible rfl
      rotate_left
      · simp only [Act.put, List.setIfInBounds_toArray, List.set_cons_zero, List.set_cons_succ, i64_w, i32_w]
        rfl
      refine pure_ (i := 10) (N := some 16) (v := ?_) (a' := ?_) #[true, true, true, true, true, true, true, true, true, true, true, false, false, false, false, false] rfl rfl (any_of HT_.out (by kernel_rfl)) (fun _ _ _ h => h) (Or.inl ⟨by rfl, ?_⟩) ?_ ?_
      rotate_left
      · intro w'
        go_simp
        with_reducible rfl
      rotate_left
      · simp only [Act.put, List.setIfInBounds_toArray, List.set_cons_zero, List.set_cons_succ, i64_w, i32_w]
        rfl
      refine pure_ (i := 11) (N := some 17) (v := undef) (a' := ?_) #[true, true, true, true, true, true, true, true, true, true, true, true, false, false, false, false] rfl rfl (any_of HT_.out (by kernel_rfl)) (fun _ _ _ h => h) (Or.inr ⟨by rfl, rfl⟩) ?_ ?_
      rotate_left
      · simp only [Act.put, List.setIfInBounds_toArray, List.set_cons_zero, List.set_cons_succ, i64_w, i32_w]
        rfl
      refine pure_ (i := 12) (N := some 18) (v := undef) (a' := ?_) #[true, true, true, true, true, true, true, true, true, true, true, true, true, false, false, false] rfl rfl (any_of HT_.out (by kernel_rfl)) (fun _ _ _ h => h) (Or.inr ⟨by rfl, rfl⟩) ?_ ?_
      rotate_left
      · simp only [Act.put, List.setIfInBounds_toArray, List.set_cons_zero, List.set_cons_succ, i64_w, i32_w]
        rfl
      refine pure_ (i := 13) (N := some 19) (v := undef) (a' := ?_) #[true, true, true, true, true, true, true, true, true, true, true, true, true, true, false, false] rfl rfl (any_of HT_.out (by kernel_rfl)) (fun _ _ _ h => h) (Or.inr ⟨by rfl, rfl⟩) ?_ ?_
      rotate_left
      · simp only [Act.put, List.setIfInBounds_toArray, List.set_cons_zero, List.set_cons_succ, i64_w, i32_w]
        rfl
      refine pure_ (i := 14) (N := some 20) (v := ?_) (a' := ?_) #[true, true, true, true, true, true, true, true, true, true, true, true, true, true, true, false] rfl rfl (any_of HT_.out (by kernel_rfl)) (fun _ _ _ h => h) (Or.inl ⟨by rfl, ?_⟩) ?_ ?_
      rotate_left
      · intro w'
        go_simp
        with_reducible rfl
      rotate_left
      · simp only [Act.put, List.setIfInBounds_toArray, List.set_cons_zero, List.set_cons_succ, i64_w, i32_w]
        rfl
      refine pure_ (i := 15) (N := some 2) (v := ?_) (a' := ?_) #[true, true, true, true, true, true, true, true, true, true, true, true, true, true, true, true] rfl rfl (any_of HT_.out (by kernel_rfl)) (fun _ _ _ h => h) (Or.inl ⟨by rfl, ?_⟩) ?_ ?_
      rotate_left
      · intro w'
        go_simp
        with_reducible rfl
      rotate_left
      · simp only [Act.put, List.setIfInBounds_toArray, List.set_cons_zero, List.set_cons_succ, i64_w, i32_w]
        rfl
      refine done_ (done_of HT_.out (by kernel_rfl)) ?_
      try go_wp2
      go_ret
      exact ⟨by first | rfl | (simp [errW_none, errW_some] <;> rfl) | (simp [*, errW_none, errW_some] <;> rfl), by repeat (first | (with_reducible first | exact HB.out | apply bX_ | apply bW_ | apply bY_ | refine bS_ ?_ GE115.out) | exact HB.out)⟩
  · rw [if_neg c2] at H
    have c2b0 : (a0_0 == 1) = false := beq_eq_false_iff_ne.mpr c2
    have c2b1 : (a0_0 != 1) = true := bne_iff_ne.mpr c2
    have HC18 := Aside0.mk H
    clear H
    go_enter Tryd.func10, Tryd.ntmps10
    go_upto_region 3 with (first | ((with_reducible refine gate_dst (N := 1) rfl ?_); refine box_event ?hg (N := 1) ?hd (cs := #[.int .u8 a0_0, .int .i64 a0_1, .int .i64 a0_2, .int .i64 a0_3, .int .i64 a0_4, .int .i64 a0_5, .bool a0_6, .int .i64 a0_7]) (t := 36) ?hr ?_; (case hd => rfl); (case hg => rfl); (case hr => first | (go_simp; done) | (go_simp; rfl)); intro gb115 hg w19 hbox hb; have n0_ := Aside0.mk (below_step (by repeat (first | (with_reducible first | exact HB.out | apply bX_ | apply bW_ | apply bY_) | exact HB.out)) hb); have n1_ := Aside0.mk (hbox); have n2_ := Aside0.mk ((by rw [hg]; exact (below_size (by repeat (first | (with_reducible first | exact HB.out | apply bX_ | apply bW_ | apply bY_) | exact HB.out))) : w.heap.size ≤ gb115)); have n3_ := Aside0.mk ((by rw [hg]; exact (below_size (by repeat (first | (with_reducible first | exact HB.out | apply bX_ | apply bW_ | apply bY_) | exact HB.out))) : w.heap.size ≤ gb115)); clear HB; have HB := n0_; have BK115 := n1_; have GW115 := n2_; have GE115 := n3_; clear n0_ n1_ n2_ n3_; clear hb hbox hg; have hcz20_0 : w19.cell? ⟨gb115, 0, none⟩ = some (.int .u8 a0_0) := (bC_ BK115.out 0).trans rfl; have hcz20_1 : w19.cell? ⟨gb115, 1, none⟩ = some (.int .i64 a0_1) := (bC_ BK115.out 1).trans rfl; have hcz20_2 : w19.cell? ⟨gb115, 2, none⟩ = some (.int .i64 a0_2) := (bC_ BK115.out 2).trans rfl; have hcz20_3 : w19.cell? ⟨gb115, 3, none⟩ = some (.int .i64 a0_3) := (bC_ BK115.out 3).trans rfl; have hcz20_4 : w19.cell? ⟨gb115, 4, none⟩ = some (.int .i64 a0_4) := (bC_ BK115.out 4).trans rfl; have hcz20_5 : w19.cell? ⟨gb115, 5, none⟩ = some (.int .i64 a0_5) := (bC_ BK115.out 5).trans rfl; have hcz20_6 : w19.cell? ⟨gb115, 6, none⟩ = some (.bool a0_6) := (bC_ BK115.out 6).trans rfl; have hcz20_7 : w19.cell? ⟨gb115, 7, none⟩ = some (.int .i64 a0_7) := (bC_ BK115.out 7).trans rfl; have hfz20_0 := bF_ BK115.out 0; have hfz20_1 := bF_ BK115.out 1; have hfz20_2 := bF_ BK115.out 2; have hfz20_3 := bF_ BK115.out 3; have hfz20_4 := bF_ BK115.out 4; have hfz20_5 := bF_ BK115.out 5; have hfz20_6 := bF_ BK115.out 6; have hfz20_7 := bF_ BK115.out 7))
    (try simp only [Act.put, List.setIfInBounds_toArray, List.set_cons_zero, List.set_cons_succ])
    go_cut [43] (fun v43 wc => ∃ (kq : Nat) (x43_17 : Bool), v43 = .bool x43_17 ∧ Aside0 (sundialref08_Right.j0 kq x43_17 a0_0 a0_1 a0_2 a0_3 a0_4 a0_5 a0_6 a0_7 = some r) ∧ Aside0 (kq ≤ k) ∧ Aside0 (wc.heap[gb115]? = some (.cells #[.int .u8 a0_0, .int .i64 a0_1, .int .i64 a0_2, .int .i64 a0_3, .int .i64 a0_4, .int .i64 a0_5, .bool a0_6, .int .i64 a0_7] 36 (0, 0))) ∧ Aside0 (Below w.heap.size w wc))
    case first =>
      have H := HC18.out
      clear HC18
      by_cases c21 : a0_0 = 2
      · rw [if_pos c21] at H
        have c21b0 : (a0_0 == 2) = true := beq_iff_eq.mpr c21
        have c21b1 : (a0_0 != 2) = false := bne_eq_false_iff_eq.mpr c21
        clear c21
        (first | rw [c21b0] | (simp only [i64_w, i32_w]; rw [c21b0]) | skip)
        by_cases c22 : a0_1 = 0
        · rw [if_pos c22] at H
          have c22b0 : (a0_1 == 0) = true := beq_iff_eq.mpr c22
          have c22b1 : (a0_1 != 0) = false := bne_eq_false_iff_eq.mpr c22
          clear c22
          by_cases c23 : a0_7 = 0
          · rw [if_pos c23] at H
            have c23b0 : (a0_7 == 0) = true := beq_iff_eq.mpr c23
            have c23b1 : (a0_7 != 0) = false := bne_eq_false_iff_eq.mpr c23
            clear c23
            by_cases c24 : a0_5 < (-2147483648)
            · rw [if_pos c24] at H
              have c24b0 : decide (a0_5 < (-2147483648)) = true := decide_eq_true c24
              clear c24
              have H' := Aside0.mk H
              clear H
              have hcz25_0 : w19.cell? ⟨gb115, 0, none⟩ = some (.int .u8 a0_0) := (bC_ BK115.out 0).trans rfl
              have hcz25_1 : w19.cell? ⟨gb115, 1, none⟩ = some (.int .i64 a0_1) := (bC_ BK115.out 1).trans rfl
              have hcz25_2 : w19.cell? ⟨gb115, 2, none⟩ = some (.int .i64 a0_2) := (bC_ BK115.out 2).trans rfl
              have hcz25_3 : w19.cell? ⟨gb115, 3, none⟩ = some (.int .i64 a0_3) := (bC_ BK115.out 3).trans rfl
              have hcz25_4 : w19.cell? ⟨gb115, 4, none⟩ = some (.int .i64 a0_4) := (bC_ BK115.out 4).trans rfl
              have hcz25_5 : w19.cell? ⟨gb115, 5, none⟩ = some (.int .i64 a0_5) := (bC_ BK115.out 5).trans rfl
              have hcz25_6 : w19.cell? ⟨gb115, 6, none⟩ = some (.bool a0_6) := (bC_ BK115.out 6).trans rfl
              have hcz25_7 : w19.cell? ⟨gb115, 7, none⟩ = some (.int .i64 a0_7) := (bC_ BK115.out 7).trans rfl
              have hfz25_0 := bF_ BK115.out 0
              have hfz25_1 := bF_ BK115.out 1
              have hfz25_2 := bF_ BK115.out 2
              have hfz25_3 := bF_ BK115.out 3
              have hfz25_4 := bF_ BK115.out 4
              have hfz25_5 := bF_ BK115.out 5
              have hfz25_6 := bF_ BK115.out 6
              have hfz25_7 := bF_ BK115.out 7
              go_wp2
              go_meet
              case rel => exact ⟨_, (true), (by first | rfl | (simp; done) | (simp [*]; done)), H', ⟨by first | omega | exact Nat.le_refl _⟩, ⟨by (with_reducible repeat (first | refine bN_ ?_ _ | refine bD_ ?_ | refine bA_ ?_ _)); exact BK115.out⟩, ⟨by repeat (first | (with_reducible first | exact HB.out | apply bX_ | apply bW_ | apply bY_ | refine bS_ ?_ GE115.out) | exact HB.out)⟩⟩
            · rw [if_neg c24] at H
              have c24b0 : decide (a0_5 < (-2147483648)) = false := decide_eq_false c24
              clear c24
              have H' := Aside0.mk H
              clear H
              have hcz26_0 : w19.cell? ⟨gb115, 0, none⟩ = some (.int .u8 a0_0) := (bC_ BK115.out 0).trans rfl
              have hcz26_1 : w19.cell? ⟨gb115, 1, none⟩ = some (.int .i64 a0_1) := (bC_ BK115.out 1).trans rfl
              have hcz26_2 : w19.cell? ⟨gb115, 2, none⟩ = some (.int .i64 a0_2) := (bC_ BK115.out 2).trans rfl
              have hcz26_3 : w19.cell? ⟨gb115, 3, none⟩ = some (.int .i64 a0_3) := (bC_ BK115.out 3).trans rfl
              have hcz26_4 : w19.cell? ⟨gb115, 4, none⟩ = some (.int .i64 a0_4) := (bC_ BK115.out 4).trans rfl
              have hcz26_5 : w19.cell? ⟨gb115, 5, none⟩ = some (.int .i64 a0_5) := (bC_ BK115.out 5).trans rfl
              have hcz26_6 : w19.cell? ⟨gb115, 6, none⟩ = some (.bool a0_6) := (bC_ BK115.out 6).trans rfl
              have hcz26_7 : w19.cell? ⟨gb115, 7, none⟩ = some (.int .i64 a0_7) := (bC_ BK115.out 7).trans rfl
              have hfz26_0 := bF_ BK115.out 0
              have hfz26_1 := bF_ BK115.out 1
              have hfz26_2 := bF_ BK115.out 2
              have hfz26_3 := bF_ BK115.out 3
              have hfz26_4 := bF_ BK115.out 4
              have hfz26_5 := bF_ BK115.out 5
              have hfz26_6 := bF_ BK115.out 6
              have hfz26_7 := bF_ BK115.out 7
              go_wp2
              go_meet
              case rel => exact ⟨_, (decide (a0_5 ≥ 2147483648)), (by first | rfl | (simp; done) | (simp [*]; done)), H', ⟨by first | omega | exact Nat.le_refl _⟩, ⟨by (with_reducible repeat (first | refine bN_ ?_ _ | refine bD_ ?_ | refine bA_ ?_ _)); exact BK115.out⟩, ⟨by repeat (first | (with_reducible first | exact HB.out | apply bX_ | apply bW_ | apply bY_ | refine bS_ ?_ GE115.out) | exact HB.out)⟩⟩
          · rw [if_neg c23] at H
            have c23b0 : (a0_7 == 0) = false := beq_eq_false_iff_ne.mpr c23
            have c23b1 : (a0_7 != 0) = true := bne_iff_ne.mpr c23
            have H' := Aside0.mk H
            clear H
            have hcz27_0 : w19.cell? ⟨gb115, 0, none⟩ = some (.int .u8 a0_0) := (bC_ BK115.out 0).trans rfl
            have hcz27_1 : w19.cell? ⟨gb115, 1, none⟩ = some (.int .i64 a0_1) := (bC_ BK115.out 1).trans rfl
            have hcz27_2 : w19.cell? ⟨gb115, 2, none⟩ = some (.int .i64 a0_2) := (bC_ BK115.out 2).trans rfl
            have hcz27_3 : w19.cell? ⟨gb115, 3, none⟩ = some (.int .i64 a0_3) := (bC_ BK115.out 3).trans rfl
            have hcz27_4 : w19.cell? ⟨gb115, 4, none⟩ = some (.int .i64 a0_4) := (bC_ BK115.out 4).trans rfl
            have hcz27_5 : w19.cell? ⟨gb115, 5, none⟩ = some (.int .i64 a0_5) := (bC_ BK115.out 5).trans rfl
            have hcz27_6 : w19.cell? ⟨gb115, 6, none⟩ = some (.bool a0_6) := (bC_ BK115.out 6).trans rfl
            have hcz27_7 : w19.cell? ⟨gb115, 7, none⟩ = some (.int .i64 a0_7) := (bC_ BK115.out 7).trans rfl
            have hfz27_0 := bF_ BK115.out 0
            have hfz27_1 := bF_ BK115.out 1
            have hfz27_2 := bF_ BK115.out 2
            have hfz27_3 := bF_ BK115.out 3
            have hfz27_4 := bF_ BK115.out 4
            have hfz27_5 := bF_ BK115.out 5
            have hfz27_6 := bF_ BK115.out 6
            have hfz27_7 := bF_ BK115.out 7
            go_wp2
            go_meet
            case rel => exact ⟨_, (true), (by first | rfl | (simp; done) | (simp [*]; done)), H', ⟨by first | omega | exact Nat.le_refl _⟩, ⟨by (with_reducible repeat (first | refine bN_ ?_ _ | refine bD_ ?_ | refine bA_ ?_ _)); exact BK115.out⟩, ⟨by repeat (first | (with_reducible first | exact HB.out | apply bX_ | apply bW_ | apply bY_ | refine bS_ ?_ GE115.out) | exact HB.out)⟩⟩
        · rw [if_neg c22] at H
          have c22b0 : (a0_1 == 0) = false := beq_eq_false_iff_ne.mpr c22
          have c22b1 : (a0_1 != 0) = true := bne_iff_ne.mpr c22
          have H' := Aside0.mk H
          clear H
          have hcz28_0 : w19.cell? ⟨gb115, 0, none⟩ = some (.int .u8 a0_0) := (bC_ BK115.out 0).trans rfl
          have hcz28_1 : w19.cell? ⟨gb115, 1, none⟩ = some (.int .i64 a0_1) := (bC_ BK115.out 1).trans rfl
          have hcz28_2 : w19.cell? ⟨gb115, 2, none⟩ = some (.int .i64 a0_2) := (bC_ BK115.out 2).trans rfl
          have hcz28_3 : w19.cell? ⟨gb115, 3, none⟩ = some (.int .i64 a0_3) := (bC_ BK115.out 3).trans rfl
          have hcz28_4 : w19.cell? ⟨gb115, 4, none⟩ = some (.int .i64 a0_4) := (bC_ BK115.out 4).trans rfl
          have hcz28_5 : w19.cell? ⟨gb115, 5, none⟩ = some (.int .i64 a0_5) := (bC_ BK115.out 5).trans rfl
          have hcz28_6 : w19.cell? ⟨gb115, 6, none⟩ = some (.bool a0_6) := (bC_ BK115.out 6).trans rfl
          have hcz28_7 : w19.cell? ⟨gb115, 7, none⟩ = some (.int .i64 a0_7) := (bC_ BK115.out 7).trans rfl
          have hfz28_0 := bF_ BK115.out 0
          have hfz28_1 := bF_ BK115.out 1
          have hfz28_2 := bF_ BK115.out 2
          have hfz28_3 := bF_ BK115.out 3
          have hfz28_4 := bF_ BK115.out 4
          have hfz28_5 := bF_ BK115.out 5
          have hfz28_6 := bF_ BK115.out 6
          have hfz28_7 := bF_ BK115.out 7
          go_wp2
          go_meet
          case rel => exact ⟨_, (true), (by first | rfl | (simp; done) | (simp [*]; done)), H', ⟨by first | omega | exact Nat.le_refl _⟩, ⟨by (with_reducible repeat (first | refine bN_ ?_ _ | refine bD_ ?_ | refine bA_ ?_ _)); exact BK115.out⟩, ⟨by repeat (first | (with_reducible first | exact HB.out | apply bX_ | apply bW_ | apply bY_ | refine bS_ ?_ GE115.out) | exact HB.out)⟩⟩
      · rw [if_neg c21] at H
        have c21b0 : (a0_0 == 2) = false := beq_eq_false_iff_ne.mpr c21
        have c21b1 : (a0_0 != 2) = true := bne_iff_ne.mpr c21
        (first | rw [c21b0] | (simp only [i64_w, i32_w]; rw [c21b0]) | skip)
        have H' := Aside0.mk H
        clear H
        have hcz29_0 : w19.cell? ⟨gb115, 0, none⟩ = some (.int .u8 a0_0) := (bC_ BK115.out 0).trans rfl
        have hcz29_1 : w19.cell? ⟨gb115, 1, none⟩ = some (.int .i64 a0_1) := (bC_ BK115.out 1).trans rfl
        have hcz29_2 : w19.cell? ⟨gb115, 2, none⟩ = some (.int .i64 a0_2) := (bC_ BK115.out 2).trans rfl
        have hcz29_3 : w19.cell? ⟨gb115, 3, none⟩ = some (.int .i64 a0_3) := (bC_ BK115.out 3).trans rfl
        have hcz29_4 : w19.cell? ⟨gb115, 4, none⟩ = some (.int .i64 a0_4) := (bC_ BK115.out 4).trans rfl
        have hcz29_5 : w19.cell? ⟨gb115, 5, none⟩ = some (.int .i64 a0_5) := (bC_ BK115.out 5).trans rfl
        have hcz29_6 : w19.cell? ⟨gb115, 6, none⟩ = some (.bool a0_6) := (bC_ BK115.out 6).trans rfl
        have hcz29_7 : w19.cell? ⟨gb115, 7, none⟩ = some (.int .i64 a0_7) := (bC_ BK115.out 7).trans rfl
        have hfz29_0 := bF_ BK115.out 0
        have hfz29_1 := bF_ BK115.out 1
        have hfz29_2 := bF_ BK115.out 2
        have hfz29_3 := bF_ BK115.out 3
        have hfz29_4 := bF_ BK115.out 4
        have hfz29_5 := bF_ BK115.out 5
        have hfz29_6 := bF_ BK115.out 6
        have hfz29_7 := bF_ BK115.out 7
        go_wp2
        go_meet
        case rel => exact ⟨_, (true), (by first | rfl | (simp; done) | (simp [*]; done)), H', ⟨by first | omega | exact Nat.le_refl _⟩, ⟨by (with_reducible repeat (first | refine bN_ ?_ _ | refine bD_ ?_ | refine bA_ ?_ _)); exact BK115.out⟩, ⟨by repeat (first | (with_reducible first | exact HB.out | apply bX_ | apply bW_ | apply bY_ | refine bS_ ?_ GE115.out) | exact HB.out)⟩⟩
    case rest =>
      clear HC18
      (try clear c1); (try clear c2); (try clear c2b0); (try clear c2b1); (try clear p2); (try clear c4); (try clear c4b0); (try clear c4b1); (try clear c4b2); (try clear c5); (try clear c5b0); (try clear c10); (try clear c16); (try clear c21); (try clear c21b0); (try clear c21b1); (try clear c22); (try clear c22b0); (try clear c22b1); (try clear c23); (try clear c23b0); (try clear c23b1); (try clear c24); (try clear c24b0); (try clear hcz11_0); (try clear hcz11_1); (try clear hcz11_2); (try clear hcz11_3); (try clear hcz11_4); (try clear hcz11_5); (try clear hcz11_6); (try clear hcz11_7); (try clear hcz15_0); (try clear hcz15_1); (try clear hcz15_2); (try clear hcz15_3); (try clear hcz15_4); (try clear hcz15_5); (try clear hcz15_6); (try clear hcz15_7); (try clear hcz20_0); (try clear hcz20_1); (try clear hcz20_2); (try clear hcz20_3); (try clear hcz20_4); (try clear hcz20_5); (try clear hcz20_6); (try clear hcz20_7); (try clear hcz25_0); (try clear hcz25_1); (try clear hcz25_2); (try clear hcz25_3); (try clear hcz25_4); (try clear hcz25_5); (try clear hcz25_6); (try clear hcz25_7); (try clear hcz26_0); (try clear hcz26_1); (try clear hcz26_2); (try clear hcz26_3); (try clear hcz26_4); (try clear hcz26_5); (try clear hcz26_6); (try clear hcz26_7); (try clear hcz27_0); (try clear hcz27_1); (try clear hcz27_2); (try clear hcz27_3); (try clear hcz27_4); (try clear hcz27_5); (try clear hcz27_6); (try clear hcz27_7); (try clear hcz28_0); (try clear hcz28_1); (try clear hcz28_2); (try clear hcz28_3); (try clear hcz28_4); (try clear hcz28_5); (try clear hcz28_6); (try clear hcz28_7); (try clear hcz29_0); (try clear hcz29_1); (try clear hcz29_2); (try clear hcz29_3); (try clear hcz29_4); (try clear hcz29_5); (try clear hcz29_6); (try clear hcz29_7); (try clear hcz7_0); (try clear hcz7_1); (try clear hcz7_2); (try clear hcz7_3); (try clear hcz7_4); (try clear hcz7_5); (try clear hcz7_6); (try clear hcz7_7); (try clear hfz11_0); (try clear hfz11_1); (try clear hfz11_2); (try clear hfz11_3)
      (try clear hfz11_4); (try clear hfz11_5); (try clear hfz11_6); (try clear hfz11_7); (try clear hfz15_0); (try clear hfz15_1); (try clear hfz15_2); (try clear hfz15_3); (try clear hfz15_4); (try clear hfz15_5); (try clear hfz15_6); (try clear hfz15_7); (try clear hfz20_0); (try clear hfz20_1); (try clear hfz20_2); (try clear hfz20_3); (try clear hfz20_4); (try clear hfz20_5); (try clear hfz20_6); (try clear hfz20_7); (try clear hfz25_0); (try clear hfz25_1); (try clear hfz25_2); (try clear hfz25_3); (try clear hfz25_4); (try clear hfz25_5); (try clear hfz25_6); (try clear hfz25_7); (try clear hfz26_0); (try clear hfz26_1); (try clear hfz26_2); (try clear hfz26_3); (try clear hfz26_4); (try clear hfz26_5); (try clear hfz26_6); (try clear hfz26_7); (try clear hfz27_0); (try clear hfz27_1); (try clear hfz27_2); (try clear hfz27_3); (try clear hfz27_4); (try clear hfz27_5); (try clear hfz27_6); (try clear hfz27_7); (try clear hfz28_0); (try clear hfz28_1); (try clear hfz28_2); (try clear hfz28_3); (try clear hfz28_4); (try clear hfz28_5); (try clear hfz28_6); (try clear hfz28_7); (try clear hfz29_0); (try clear hfz29_1); (try clear hfz29_2); (try clear hfz29_3); (try clear hfz29_4); (try clear hfz29_5); (try clear hfz29_6); (try clear hfz29_7); (try clear hfz7_0); (try clear hfz7_1); (try clear hfz7_2); (try clear hfz7_3); (try clear hfz7_4); (try clear hfz7_5); (try clear hfz7_6); (try clear hfz7_7)
      obtain ⟨kq, x43_17, rfl, HA, HJ17, BK115, HB⟩ := hcut
      cases kq with
      | zero => exact absurd HA.out (by simp [sundialref08_Right.j0])
      | succ kj17 =>
        have H := HA.out
        clear HA
        simp only [sundialref08_Right.j0] at H
        by_cases c30 : x43_17 = true
        · subst c30
          have H1 : (some false) = some r := by rw [if_pos rfl] at H; exact H
          clear H
          have H := H1
          clear H1
          obtain rfl := Option.some.inj H
          go_wp2
          go_ret
          exact ⟨by first | rfl | (simp [errW_none, errW_some] <;> rfl) | (simp [*, errW_none, errW_some] <;> rfl), by repeat (first | (with_reducible first | exact HB.out | apply bX_ | apply bW_ | apply bY_ | refine bS_ ?_ GE115.out) | exact HB.out)⟩
        · replace c30 := Bool.eq_false_iff.mpr c30
          subst c30
          have H1 : (if a0_6 = true then (if a0_2 = (-1) then (if a0_3 = (-1) then (some (a0_4 == 1)) else (some false)) else (some false)) else (if a0_2 < (-1) then (sundialref08_Right.j1 kj17 true a0_0 a0_1 a0_2 a0_3 a0_4 a0_5 a0_6 a0_7) else (if a0_2 > 15 then (sundialref08_Right.j1 kj17 true a0_0 a0_1 a0_2 a0_3 a0_4 a0_5 a0_6 a0_7) else (if a0_3 < (-1) then (sundialref08_Right.j1 kj17 true a0_0 a0_1 a0_2 a0_3 a0_4 a0_5 a0_6 a0_7) else (if a0_3 > 15 then (sundialref08_Right.j1 kj17 true a0_0 a0_1 a0_2 a0_3 a0_4 a0_5 a0_6 a0_7) else (sundialref08_Right.j1 kj17 (a0_3 == 4) a0_0 a0_1 a0_2 a0_3 a0_4 a0_5 a0_6 a0_7)))))) = some r := by rw [if_neg (show ¬ (false = true) by decide)] at H; exact H
          clear H
          have H := H1
          clear H1
          by_cases c31 : a0_6 = true
          · subst c31
            have H1 : (if a0_2 = (-1) then (if a0_3 = (-1) then (some (a0_4 == 1)) else (some false)) else (some false)) = some r := by rw [if_pos rfl] at H; exact H
            clear H
            have H := H1
            clear H1
            by_cases c32 : a0_2 = (-1)
            · rw [if_pos c32] at H
              have c32b0 : (a0_2 == (-1)) = true := beq_iff_eq.mpr c32
              have c32b1 : (a0_2 != (-1)) = false := bne_eq_false_iff_eq.mpr c32
              clear c32
              by_cases c33 : a0_3 = (-1)
              · rw [if_pos c33] at H
                have c33b0 : (a0_3 == (-1)) = true := beq_iff_eq.mpr c33
                have c33b1 : (a0_3 != (-1)) = false := bne_eq_false_iff_eq.mpr c33
                clear c33
                obtain rfl := Option.some.inj H
                have hcz34_0 : wc.cell? ⟨gb115, 0, none⟩ = some (.int .u8 a0_0) := (bC_ BK115.out 0).trans rfl
                have hcz34_1 : wc.cell? ⟨gb115, 1, none⟩ = some (.int .i64 a0_1) := (bC_ BK115.out 1).trans rfl
                have hcz34_2 : wc.cell? ⟨gb115, 2, none⟩ = some (.int .i64 a0_2) := (bC_ BK115.out 2).trans rfl
                have hcz34_3 : wc.cell? ⟨gb115, 3, none⟩ = some (.int .i64 a0_3) := (bC_ BK115.out 3).trans rfl
                have hcz34_4 : wc.cell? ⟨gb115, 4, none⟩ = some (.int .i64 a0_4) := (bC_ BK115.out 4).trans rfl
                have hcz34_5 : wc.cell? ⟨gb115, 5, none⟩ = some (.int .i64 a0_5) := (bC_ BK115.out 5).trans rfl
                have hcz34_6 : wc.cell? ⟨gb115, 6, none⟩ = some (.bool true) := (bC_ BK115.out 6).trans rfl
                have hcz34_7 : wc.cell? ⟨gb115, 7, none⟩ = some (.int .i64 a0_7) := (bC_ BK115.out 7).trans rfl
                have hfz34_0 := bF_ BK115.out 0
                have hfz34_1 := bF_ BK115.out 1
                have hfz34_2 := bF_ BK115.out 2
                have hfz34_3 := bF_ BK115.out 3
                have hfz34_4 := bF_ BK115.out 4
                have hfz34_5 := bF_ BK115.out 5
                have hfz34_6 := bF_ BK115.out 6
                have hfz34_7 := bF_ BK115.out 7
                go_wp2
                go_ret
                exact ⟨by first | rfl | (simp [errW_none, errW_some] <;> rfl) | (simp [*, errW_none, errW_some] <;> rfl), by repeat (first | (with_reducible first | exact HB.out | apply bX_ | apply bW_ | apply bY_ | refine bS_ ?_ GE115.out) | exact HB.out)⟩
              · rw [if_neg c33] at H
                have c33b0 : (a0_3 == (-1)) = false := beq_eq_false_iff_ne.mpr c33
                have c33b1 : (a0_3 != (-1)) = true := bne_iff_ne.mpr c33
                obtain rfl := Option.some.inj H
                have hcz35_0 : wc.cell? ⟨gb115, 0, none⟩ = some (.int .u8 a0_0) := (bC_ BK115.out 0).trans rfl
                have hcz35_1 : wc.cell? ⟨gb115, 1, none⟩ = some (.int .i64 a0_1) := (bC_ BK115.out 1).trans rfl
                have hcz35_2 : wc.cell? ⟨gb115, 2, none⟩ = some (.int .i64 a0_2) := (bC_ BK115.out 2).trans rfl
                have hcz35_3 : wc.cell? ⟨gb115, 3, none⟩ = some (.int .i64 a0_3) := (bC_ BK115.out 3).trans rfl
                have hcz35_4 : wc.cell? ⟨gb115, 4, none⟩ = some (.int .i64 a0_4) := (bC_ BK115.out 4).trans rfl
                have hcz35_5 : wc.cell? ⟨gb115, 5, none⟩ = some (.int .i64 a0_5) := (bC_ BK115.out 5).trans rfl
                have hcz35_6 : wc.cell? ⟨gb115, 6, none⟩ = some (.bool true) := (bC_ BK115.out 6).trans rfl
                have hcz35_7 : wc.cell? ⟨gb115, 7, none⟩ = some (.int .i64 a0_7) := (bC_ BK115.out 7).trans rfl
                have hfz35_0 := bF_ BK115.out 0
                have hfz35_1 := bF_ BK115.out 1
                have hfz35_2 := bF_ BK115.out 2
                have hfz35_3 := bF_ BK115.out 3
                have hfz35_4 := bF_ BK115.out 4
                have hfz35_5 := bF_ BK115.out 5
                have hfz35_6 := bF_ BK115.out 6
                have hfz35_7 := bF_ BK115.out 7
                go_wp2
                go_ret
                exact ⟨by first | rfl | (simp [errW_none, errW_some] <;> rfl) | (simp [*, errW_none, errW_some] <;> rfl), by repeat (first | (with_reducible first | exact HB.out | apply bX_ | apply bW_ | apply bY_ | refine bS_ ?_ GE115.out) | exact HB.out)⟩
            · rw [if_neg c32] at H
              have c32b0 : (a0_2 == (-1)) = false := beq_eq_false_iff_ne.mpr c32
              have c32b1 : (a0_2 != (-1)) = true := bne_iff_ne.mpr c32
              obtain rfl := Option.some.inj H
              have hcz36_0 : wc.cell? ⟨gb115, 0, none⟩ = some (.int .u8 a0_0) := (bC_ BK115.out 0).trans rfl
              have hcz36_1 : wc.cell? ⟨gb115, 1, none⟩ = some (.int .i64 a0_1) := (bC_ BK115.out 1).trans rfl
              have hcz36_2 : wc.cell? ⟨gb115, 2, none⟩ = some (.int .i64 a0_2) := (bC_ BK115.out 2).trans rfl
              have hcz36_3 : wc.cell? ⟨gb115, 3, none⟩ = some (.int .i64 a0_3) := (bC_ BK115.out 3).trans rfl
              have hcz36_4 : wc.cell? ⟨gb115, 4, none⟩ = some (.int .i64 a0_4) := (bC_ BK115.out 4).trans rfl
              have hcz36_5 : wc.cell? ⟨gb115, 5, none⟩ = some (.int .i64 a0_5) := (bC_ BK115.out 5).trans rfl
              have hcz36_6 : wc.cell? ⟨gb115, 6, none⟩ = some (.bool true) := (bC_ BK115.out 6).trans rfl
              have hcz36_7 : wc.cell? ⟨gb115, 7, none⟩ = some (.int .i64 a0_7) := (bC_ BK115.out 7).trans rfl
              have hfz36_0 := bF_ BK115.out 0
              have hfz36_1 := bF_ BK115.out 1
              have hfz36_2 := bF_ BK115.out 2
              have hfz36_3 := bF_ BK115.out 3
              have hfz36_4 := bF_ BK115.out 4
              have hfz36_5 := bF_ BK115.out 5
              have hfz36_6 := bF_ BK115.out 6
              have hfz36_7 := bF_ BK115.out 7
              go_wp2
              go_ret
              exact ⟨by first | rfl | (simp [errW_none, errW_some] <;> rfl) | (simp [*, errW_none, errW_some] <;> rfl), by repeat (first | (with_reducible first | exact HB.out | apply bX_ | apply bW_ | apply bY_ | refine bS_ ?_ GE115.out) | exact HB.out)⟩
          · replace c31 := Bool.eq_false_iff.mpr c31
            subst c31
            have H1 : (if a0_2 < (-1) then (sundialref08_Right.j1 kj17 true a0_0 a0_1 a0_2 a0_3 a0_4 a0_5 false a0_7) else (if a0_2 > 15 then (sundialref08_Right.j1 kj17 true a0_0 a0_1 a0_2 a0_3 a0_4 a0_5 false a0_7) else (if a0_3 < (-1) then (sundialref08_Right.j1 kj17 true a0_0 a0_1 a0_2 a0_3 a0_4 a0_5 false a0_7) else (if a0_3 > 15 then (sundialref08_Right.j1 kj17 true a0_0 a0_1 a0_2 a0_3 a0_4 a0_5 false a0_7) else (sundialref08_Right.j1 kj17 (a0_3 == 4) a0_0 a0_1 a0_2 a0_3 a0_4 a0_5 false a0_7))))) = some r := by rw [if_neg (show ¬ (false = true) by decide)] at H; exact H
            clear H
            have H := H1
            clear H1
            have HC37 := Aside0.mk H
            clear H
            have hcz38_0 : wc.cell? ⟨gb115, 0, none⟩ = some (.int .u8 a0_0) := (bC_ BK115.out 0).trans rfl
            have hcz38_1 : wc.cell? ⟨gb115, 1, none⟩ = some (.int .i64 a0_1) := (bC_ BK115.out 1).trans rfl
            have hcz38_2 : wc.cell? ⟨gb115, 2, none⟩ = some (.int .i64 a0_2) := (bC_ BK115.out 2).trans rfl
            have hcz38_3 : wc.cell? ⟨gb115, 3, none⟩ = some (.int .i64 a0_3) := (bC_ BK115.out 3).trans rfl
            have hcz38_4 : wc.cell? ⟨gb115, 4, none⟩ = some (.int .i64 a0_4) := (bC_ BK115.out 4).trans rfl
            have hcz38_5 : wc.cell? ⟨gb115, 5, none⟩ = some (.int .i64 a0_5) := (bC_ BK115.out 5).trans rfl
            have hcz38_6 : wc.cell? ⟨gb115, 6, none⟩ = some (.bool false) := (bC_ BK115.out 6).trans rfl
            have hcz38_7 : wc.cell? ⟨gb115, 7, none⟩ = some (.int .i64 a0_7) := (bC_ BK115.out 7).trans rfl
            have hfz38_0 := bF_ BK115.out 0
            have hfz38_1 := bF_ BK115.out 1
            have hfz38_2 := bF_ BK115.out 2
            have hfz38_3 := bF_ BK115.out 3
            have hfz38_4 := bF_ BK115.out 4
            have hfz38_5 := bF_ BK115.out 5
            have hfz38_6 := bF_ BK115.out 6
            have hfz38_7 := bF_ BK115.out 7
            go_upto_region 7 with (fail)
            go_cut [81] (fun v81 wc => ∃ (kq : Nat) (x81_36 : Bool), v81 = .bool x81_36 ∧ Aside0 (sundialref08_Right.j1 kq x81_36 a0_0 a0_1 a0_2 a0_3 a0_4 a0_5 false a0_7 = some r) ∧ Aside0 (kq ≤ kj17) ∧ Aside0 (wc.heap[gb115]? = some (.cells #[.int .u8 a0_0, .int .i64 a0_1, .int .i64 a0_2, .int .i64 a0_3, .int .i64 a0_4, .int .i64 a0_5, .bool false, .int .i64 a0_7] 36 (0, 0))) ∧ Aside0 (Below w.heap.size w wc))
            case first =>
              have H := HC37.out
              clear HC37
              by_cases c39 : a0_2 < (-1)
              · rw [if_pos c39] at H
                have c39b0 : decide (a0_2 < (-1)) = true := decide_eq_true c39
                clear c39
                (first | rw [c39b0] | (simp only [i64_w, i32_w]; rw [c39b0]) | skip)
                have H' := Aside0.mk H
                clear H
                have hcz40_0 : wc.cell? ⟨gb115, 0, none⟩ = some (.int .u8 a0_0) := (bC_ BK115.out 0).trans rfl
                have hcz40_1 : wc.cell? ⟨gb115, 1, none⟩ = some (.int .i64 a0_1) := (bC_ BK115.out 1).trans rfl
                have hcz40_2 : wc.cell? ⟨gb115, 2, none⟩ = some (.int .i64 a0_2) := (bC_ BK115.out 2).trans rfl
                have hcz40_3 : wc.cell? ⟨gb115, 3, none⟩ = some (.int .i64 a0_3) := (bC_ BK115.out 3).trans rfl
                have hcz40_4 : wc.cell? ⟨gb115, 4, none⟩ = some (.int .i64 a0_4) := (bC_ BK115.out 4).trans rfl
                have hcz40_5 : wc.cell? ⟨gb115, 5, none⟩ = some (.int .i64 a0_5) := (bC_ BK115.out 5).trans rfl
                have hcz40_6 : wc.cell? ⟨gb115, 6, none⟩ = some (.bool false) := (bC_ BK115.out 6).trans rfl
                have hcz40_7 : wc.cell? ⟨gb115, 7, none⟩ = some (.int .i64 a0_7) := (bC_ BK115.out 7).trans rfl
                have hfz40_0 := bF_ BK115.out 0
                have hfz40_1 := bF_ BK115.out 1
                have hfz40_2 := bF_ BK115.out 2
                have hfz40_3 := bF_ BK115.out 3
                have hfz40_4 := bF_ BK115.out 4
                have hfz40_5 := bF_ BK115.out 5
                have hfz40_6 := bF_ BK115.out 6
                have hfz40_7 := bF_ BK115.out 7
                go_wp2
                go_meet
                case rel => exact ⟨_, (true), (by first | rfl | (simp; done) | (simp [*]; done)), H', ⟨by have := HJ17.out; first | omega | exact Nat.le_refl _⟩, ⟨by (with_reducible repeat (first | refine bN_ ?_ _ | refine bD_ ?_ | refine bA_ ?_ _)); exact BK115.out⟩, ⟨by repeat (first | (with_reducible first | exact HB.out | apply bX_ | apply bW_ | apply bY_ | refine bS_ ?_ GE115.out) | exact HB.out)⟩⟩
              · rw [if_neg c39] at H
                have c39b0 : decide (a0_2 < (-1)) = false := decide_eq_false c39
                clear c39
                (first | rw [c39b0] | (simp only [i64_w, i32_w]; rw [c39b0]) | skip)
                by_cases c41 : a0_2 > 15
                · rw [if_pos c41] at H
                  have c41b0 : decide (15 < a0_2) = true := decide_eq_true c41
                  clear c41
                  have H' := Aside0.mk H
                  clear H
                  have hcz42_0 : wc.cell? ⟨gb115, 0, none⟩ = some (.int .u8 a0_0) := (bC_ BK115.out 0).trans rfl
                  have hcz42_1 : wc.cell? ⟨gb115, 1, none⟩ = some (.int .i64 a0_1) := (bC_ BK115.out 1).trans rfl
                  have hcz42_2 : wc.cell? ⟨gb115, 2, none⟩ = some (.int .i64 a0_2) := (bC_ BK115.out 2).trans rfl
                  have hcz42_3 : wc.cell? ⟨gb115, 3, none⟩ = some (.int .i64 a0_3) := (bC_ BK115.out 3).trans rfl
                  have hcz42_4 : wc.cell? ⟨gb115, 4, none⟩ = some (.int .i64 a0_4) := (bC_ BK115.out 4).trans rfl
                  have hcz42_5 : wc.cell? ⟨gb115, 5, none⟩ = some (.int .i64 a0_5) := (bC_ BK115.out 5).trans rfl
                  have hcz42_6 : wc.cell? ⟨gb115, 6, none⟩ = some (.bool false) := (bC_ BK115.out 6).trans rfl
                  have hcz42_7 : wc.cell? ⟨gb115, 7, none⟩ = some (.int .i64 a0_7) := (bC_ BK115.out 7).trans rfl
                  have hfz42_0 := bF_ BK115.out 0
                  have hfz42_1 := bF_ BK115.out 1
                  have hfz42_2 := bF_ BK115.out 2
                  have hfz42_3 := bF_ BK115.out 3
                  have hfz42_4 := bF_ BK115.out 4
                  have hfz42_5 := bF_ BK115.out 5
                  have hfz42_6 := bF_ BK115.out 6
                  have hfz42_7 := bF_ BK115.out 7
                  go_wp2
                  go_meet
                  case rel => exact ⟨_, (true), (by first | rfl | (simp; done) | (simp [*]; done)), H', ⟨by have := HJ17.out; first | omega | exact Nat.le_refl _⟩, ⟨by (with_reducible repeat (first | refine bN_ ?_ _ | refine bD_ ?_ | refine bA_ ?_ _)); exact BK115.out⟩, ⟨by repeat (first | (with_reducible first | exact HB.out | apply bX_ | apply bW_ | apply bY_ | refine bS_ ?_ GE115.out) | exact HB.out)⟩⟩
                · rw [if_neg c41] at H
                  have c41b0 : decide (15 < a0_2) = false := decide_eq_false c41
                  clear c41
                  by_cases c43 : a0_3 < (-1)
                  · rw [if_pos c43] at H
                    have c43b0 : decide (a0_3 < (-1)) = true := decide_eq_true c43
                    clear c43
                    have H' := Aside0.mk H
                    clear H
                    have hcz44_0 : wc.cell? ⟨gb115, 0, none⟩ = some (.int .u8 a0_0) := (bC_ BK115.out 0).trans rfl
                    have hcz44_1 : wc.cell? ⟨gb115, 1, none⟩ = some (.int .i64 a0_1) := (bC_ BK115.out 1).trans rfl
                    have hcz44_2 : wc.cell? ⟨gb115, 2, none⟩ = some (.int .i64 a0_2) := (bC_ BK115.out 2).trans rfl
                    have hcz44_3 : wc.cell? ⟨gb115, 3, none⟩ = some (.int .i64 a0_3) := (bC_ BK115.out 3).trans rfl
                    have hcz44_4 : wc.cell? ⟨gb115, 4, none⟩ = some (.int .i64 a0_4) := (bC_ BK115.out 4).trans rfl
                    have hcz44_5 : wc.cell? ⟨gb115, 5, none⟩ = some (.int .i64 a0_5) := (bC_ BK115.out 5).trans rfl
                    have hcz44_6 : wc.cell? ⟨gb115, 6, none⟩ = some (.bool false) := (bC_ BK115.out 6).trans rfl
                    have hcz44_7 : wc.cell? ⟨gb115, 7, none⟩ = some (.int .i64 a0_7) := (bC_ BK115.out 7).trans rfl
                    have hfz44_0 := bF_ BK115.out 0
                    have hfz44_1 := bF_ BK115.out 1
                    have hfz44_2 := bF_ BK115.out 2
                    have hfz44_3 := bF_ BK115.out 3
                    have hfz44_4 := bF_ BK115.out 4
                    have hfz44_5 := bF_ BK115.out 5
                    have hfz44_6 := bF_ BK115.out 6
                    have hfz44_7 := bF_ BK115.out 7
                    go_wp2
                    go_meet
                    case rel => exact ⟨_, (true), (by first | rfl | (simp; done) | (simp [*]; done)), H', ⟨by have := HJ17.out; first | omega | exact Nat.le_refl _⟩, ⟨by (with_reducible repeat (first | refine bN_ ?_ _ | refine bD_ ?_ | refine bA_ ?_ _)); exact BK115.out⟩, ⟨by repeat (first | (with_reducible first | exact HB.out | apply bX_ | apply bW_ | apply bY_ | refine bS_ ?_ GE115.out) | exact HB.out)⟩⟩
                  · rw [if_neg c43] at H
                    have c43b0 : decide (a0_3 < (-1)) = false := decide_eq_false c43
                    clear c43
                    by_cases c45 : a0_3 > 15
                    · rw [if_pos c45] at H
                      have c45b0 : decide (15 < a0_3) = true := decide_eq_true c45
                      clear c45
                      have H' := Aside0.mk H
                      clear H
                      have hcz46_0 : wc.cell? ⟨gb115, 0, none⟩ = some (.int .u8 a0_0) := (bC_ BK115.out 0).trans rfl
                      have hcz46_1 : wc.cell? ⟨gb115, 1, none⟩ = some (.int .i64 a0_1) := (bC_ BK115.out 1).trans rfl
                      have hcz46_2 : wc.cell? ⟨gb115, 2, none⟩ = some (.int .i64 a0_2) := (bC_ BK115.out 2).trans rfl
                      have hcz46_3 : wc.cell? ⟨gb115, 3, none⟩ = some (.int .i64 a0_3) := (bC_ BK115.out 3).trans rfl
                      have hcz46_4 : wc.cell? ⟨gb115, 4, none⟩ = some (.int .i64 a0_4) := (bC_ BK115.out 4).trans rfl
                      have hcz46_5 : wc.cell? ⟨gb115, 5, none⟩ = some (.int .i64 a0_5) := (bC_ BK115.out 5).trans rfl
                      have hcz46_6 : wc.cell? ⟨gb115, 6, none⟩ = some (.bool false) := (bC_ BK115.out 6).trans rfl
                      have hcz46_7 : wc.cell? ⟨gb115, 7, none⟩ = some (.int .i64 a0_7) := (bC_ BK115.out 7).trans rfl
                      have hfz46_0 := bF_ BK115.out 0
                      have hfz46_1 := bF_ BK115.out 1
                      have hfz46_2 := bF_ BK115.out 2
                      have hfz46_3 := bF_ BK115.out 3
                      have hfz46_4 := bF_ BK115.out 4
                      have hfz46_5 := bF_ BK115.out 5
                      have hfz46_6 := bF_ BK115.out 6
                      have hfz46_7 := bF_ BK115.out 7
                      go_wp2
                      go_meet
                      case rel => exact ⟨_, (true), (by first | rfl | (simp; done) | (simp [*]; done)), H', ⟨by have := HJ17.out; first | omega | exact Nat.le_refl _⟩, ⟨by (with_reducible repeat (first | refine bN_ ?_ _ | refine bD_ ?_ | refine bA_ ?_ _)); exact BK115.out⟩, ⟨by repeat (first | (with_reducible first | exact HB.out | apply bX_ | apply bW_ | apply bY_ | refine bS_ ?_ GE115.out) | exact HB.out)⟩⟩
                    · rw [if_neg c45] at H
                      have c45b0 : decide (15 < a0_3) = false := decide_eq_false c45
                      clear c45
                      have H' := Aside0.mk H
                      clear H
                      have hcz47_0 : wc.cell? ⟨gb115, 0, none⟩ = some (.int .u8 a0_0) := (bC_ BK115.out 0).trans rfl
                      have hcz47_1 : wc.cell? ⟨gb115, 1, none⟩ = some (.int .i64 a0_1) := (bC_ BK115.out 1).trans rfl
                      have hcz47_2 : wc.cell? ⟨gb115, 2, none⟩ = some (.int .i64 a0_2) := (bC_ BK115.out 2).trans rfl
                      have hcz47_3 : wc.cell? ⟨gb115, 3, none⟩ = some (.int .i64 a0_3) := (bC_ BK115.out 3).trans rfl
                      have hcz47_4 : wc.cell? ⟨gb115, 4, none⟩ = some (.int .i64 a0_4) := (bC_ BK115.out 4).trans rfl
                      have hcz47_5 : wc.cell? ⟨gb115, 5, none⟩ = some (.int .i64 a0_5) := (bC_ BK115.out 5).trans rfl
                      have hcz47_6 : wc.cell? ⟨gb115, 6, none⟩ = some (.bool false) := (bC_ BK115.out 6).trans rfl
                      have hcz47_7 : wc.cell? ⟨gb115, 7, none⟩ = some (.int .i64 a0_7) := (bC_ BK115.out 7).trans rfl
                      have hfz47_0 := bF_ BK115.out 0
                      have hfz47_1 := bF_ BK115.out 1
                      have hfz47_2 := bF_ BK115.out 2
                      have hfz47_3 := bF_ BK115.out 3
                      have hfz47_4 := bF_ BK115.out 4
                      have hfz47_5 := bF_ BK115.out 5
                      have hfz47_6 := bF_ BK115.out 6
                      have hfz47_7 := bF_ BK115.out 7
                      go_wp2
                      go_meet
                      case rel => exact ⟨_, ((a0_3 == 4)), (by first | rfl | (simp; done) | (simp [*]; done)), H', ⟨by have := HJ17.out; first | omega | exact Nat.le_refl _⟩, ⟨by (with_reducible repeat (first | refine bN_ ?_ _ | refine bD_ ?_ | refine bA_ ?_ _)); exact BK115.out⟩, ⟨by repeat (first | (with_reducible first | exact HB.out | apply bX_ | apply bW_ | apply bY_ | refine bS_ ?_ GE115.out) | exact HB.out)⟩⟩
            case rest =>
              clear HC37
              (try clear c1); (try clear c2); (try clear c2b0); (try clear c2b1); (try clear p2); (try clear c3); (try clear c4); (try clear c4b0); (try clear c4b1); (try clear c4b2); (try clear c5); (try clear c5b0); (try clear c10); (try clear c16); (try clear c21); (try clear c21b0); (try clear c21b1); (try clear c22); (try clear c22b0); (try clear c22b1); (try clear c23); (try clear c23b0); (try clear c23b1); (try clear c24); (try clear c24b0); (try clear c30); (try clear c31); (try clear c32); (try clear c32b0); (try clear c32b1); (try clear c33); (try clear c33b0); (try clear c33b1); (try clear c39); (try clear c39b0); (try clear c41); (try clear c41b0); (try clear c43); (try clear c43b0); (try clear c45); (try clear c45b0); (try clear hcz11_0); (try clear hcz11_1); (try clear hcz11_2); (try clear hcz11_3); (try clear hcz11_4); (try clear hcz11_5); (try clear hcz11_6); (try clear hcz11_7); (try clear hcz15_0); (try clear hcz15_1); (try clear hcz15_2); (try clear hcz15_3); (try clear hcz15_4); (try clear hcz15_5); (try clear hcz15_6); (try clear hcz15_7); (try clear hcz20_0); (try clear hcz20_1); (try clear hcz20_2); (try clear hcz20_3); (try clear hcz20_4); (try clear hcz20_5); (try clear hcz20_6); (try clear hcz20_7); (try clear hcz25_0); (try clear hcz25_1); (try clear hcz25_2); (try clear hcz25_3); (try clear hcz25_4); (try clear hcz25_5); (try clear hcz25_6); (try clear hcz25_7); (try clear hcz26_0); (try clear hcz26_1); (try clear hcz26_2); (try clear hcz26_3); (try clear hcz26_4); (try clear hcz26_5); (try clear hcz26_6); (try clear hcz26_7); (try clear hcz27_0); (try clear hcz27_1); (try clear hcz27_2); (try clear hcz27_3); (try clear hcz27_4); (try clear hcz27_5); (try clear hcz27_6); (try clear hcz27_7); (try clear hcz28_0); (try clear hcz28_1); (try clear hcz28_2); (try clear hcz28_3); (try clear hcz28_4); (try clear hcz28_5); (try clear hcz28_6); (try clear hcz28_7); (try clear hcz29_0); (try clear hcz29_1); (try clear hcz29_2); (try clear hcz29_3); (try clear hcz29_4)
              (try clear hcz29_5); (try clear hcz29_6); (try clear hcz29_7); (try clear hcz34_0); (try clear hcz34_1); (try clear hcz34_2); (try clear hcz34_3); (try clear hcz34_4); (try clear hcz34_5); (try clear hcz34_6); (try clear hcz34_7); (try clear hcz35_0); (try clear hcz35_1); (try clear hcz35_2); (try clear hcz35_3); (try clear hcz35_4); (try clear hcz35_5); (try clear hcz35_6); (try clear hcz35_7); (try clear hcz36_0); (try clear hcz36_1); (try clear hcz36_2); (try clear hcz36_3); (try clear hcz36_4); (try clear hcz36_5); (try clear hcz36_6); (try clear hcz36_7); (try clear hcz38_0); (try clear hcz38_1); (try clear hcz38_2); (try clear hcz38_3); (try clear hcz38_4); (try clear hcz38_5); (try clear hcz38_6); (try clear hcz38_7); (try clear hcz40_0); (try clear hcz40_1); (try clear hcz40_2); (try clear hcz40_3); (try clear hcz40_4); (try clear hcz40_5); (try clear hcz40_6); (try clear hcz40_7); (try clear hcz42_0); (try clear hcz42_1); (try clear hcz42_2); (try clear hcz42_3); (try clear hcz42_4); (try clear hcz42_5); (try clear hcz42_6); (try clear hcz42_7); (try clear hcz44_0); (try clear hcz44_1); (try clear hcz44_2); (try clear hcz44_3); (try clear hcz44_4); (try clear hcz44_5); (try clear hcz44_6); (try clear hcz44_7); (try clear hcz46_0); (try clear hcz46_1); (try clear hcz46_2); (try clear hcz46_3); (try clear hcz46_4); (try clear hcz46_5); (try clear hcz46_6); (try clear hcz46_7); (try clear hcz47_0); (try clear hcz47_1); (try clear hcz47_2); (try clear hcz47_3); (try clear hcz47_4); (try clear hcz47_5); (try clear hcz47_6); (try clear hcz47_7); (try clear hcz7_0); (try clear hcz7_1); (try clear hcz7_2); (try clear hcz7_3); (try clear hcz7_4); (try clear hcz7_5); (try clear hcz7_6); (try clear hcz7_7); (try clear hfz11_0); (try clear hfz11_1); (try clear hfz11_2); (try clear hfz11_3); (try clear hfz11_4); (try clear hfz11_5); (try clear hfz11_6); (try clear hfz11_7); (try clear hfz15_0); (try clear hfz15_1); (try clear hfz15_2); (try clear hfz15_3); (try clear hfz15_4)
              (try clear hfz15_5); (try clear hfz15_6); (try clear hfz15_7); (try clear hfz20_0); (try clear hfz20_1); (try clear hfz20_2); (try clear hfz20_3); (try clear hfz20_4); (try clear hfz20_5); (try clear hfz20_6); (try clear hfz20_7); (try clear hfz25_0); (try clear hfz25_1); (try clear hfz25_2); (try clear hfz25_3); (try clear hfz25_4); (try clear hfz25_5); (try clear hfz25_6); (try clear hfz25_7); (try clear hfz26_0); (try clear hfz26_1); (try clear hfz26_2); (try clear hfz26_3); (try clear hfz26_4); (try clear hfz26_5); (try clear hfz26_6); (try clear hfz26_7); (try clear hfz27_0); (try clear hfz27_1); (try clear hfz27_2); (try clear hfz27_3); (try clear hfz27_4); (try clear hfz27_5); (try clear hfz27_6); (try clear hfz27_7); (try clear hfz28_0); (try clear hfz28_1); (try clear hfz28_2); (try clear hfz28_3); (try clear hfz28_4); (try clear hfz28_5); (try clear hfz28_6); (try clear hfz28_7); (try clear hfz29_0); (try clear hfz29_1); (try clear hfz29_2); (try clear hfz29_3); (try clear hfz29_4); (try clear hfz29_5); (try clear hfz29_6); (try clear hfz29_7); (try clear hfz34_0); (try clear hfz34_1); (try clear hfz34_2); (try clear hfz34_3); (try clear hfz34_4); (try clear hfz34_5); (try clear hfz34_6); (try clear hfz34_7); (try clear hfz35_0); (try clear hfz35_1); (try clear hfz35_2); (try clear hfz35_3); (try clear hfz35_4); (try clear hfz35_5); (try clear hfz35_6); (try clear hfz35_7); (try clear hfz36_0); (try clear hfz36_1); (try clear hfz36_2); (try clear hfz36_3); (try clear hfz36_4); (try clear hfz36_5); (try clear hfz36_6); (try clear hfz36_7); (try clear hfz38_0); (try clear hfz38_1); (try clear hfz38_2); (try clear hfz38_3); (try clear hfz38_4); (try clear hfz38_5); (try clear hfz38_6); (try clear hfz38_7); (try clear hfz40_0); (try clear hfz40_1); (try clear hfz40_2); (try clear hfz40_3); (try clear hfz40_4); (try clear hfz40_5); (try clear hfz40_6); (try clear hfz40_7); (try clear hfz42_0); (try clear hfz42_1); (try clear hfz42_2); (try clear hfz42_3)
              (try clear hfz42_4); (try clear hfz42_5); (try clear hfz42_6); (try clear hfz42_7); (try clear hfz44_0); (try clear hfz44_1); (try clear hfz44_2); (try clear hfz44_3); (try clear hfz44_4); (try clear hfz44_5); (try clear hfz44_6); (try clear hfz44_7); (try clear hfz46_0); (try clear hfz46_1); (try clear hfz46_2); (try clear hfz46_3); (try clear hfz46_4); (try clear hfz46_5); (try clear hfz46_6); (try clear hfz46_7); (try clear hfz47_0); (try clear hfz47_1); (try clear hfz47_2); (try clear hfz47_3); (try clear hfz47_4); (try clear hfz47_5); (try clear hfz47_6); (try clear hfz47_7); (try clear hfz7_0); (try clear hfz7_1); (try clear hfz7_2); (try clear hfz7_3); (try clear hfz7_4); (try clear hfz7_5); (try clear hfz7_6); (try clear hfz7_7); (try clear p2)
              obtain ⟨kq, x81_36, rfl, HA, HJ36, BK115, HB⟩ := hcut
              cases kq with
              | zero => exact absurd HA.out (by simp [sundialref08_Right.j1])
              | succ kj36 =>
                have H := HA.out
                clear HA
                simp only [sundialref08_Right.j1] at H
                by_cases c48 : x81_36 = true
                · subst c48
                  have H1 : (some false) = some r := by rw [if_pos rfl] at H; exact H
                  clear H
                  have H := H1
                  clear H1
                  obtain rfl := Option.some.inj H
                  go_wp2
                  go_ret
                  exact ⟨by first | rfl | (simp [errW_none, errW_some] <;> rfl) | (simp [*, errW_none, errW_some] <;> rfl), by repeat (first | (with_reducible first | exact HB.out | apply bX_ | apply bW_ | apply bY_ | refine bS_ ?_ GE115.out) | exact HB.out)⟩
                · replace c48 := Bool.eq_false_iff.mpr c48
                  subst c48
                  have H1 : (if a0_3 < 0 then (some (a0_4 == 1)) else (if a0_4 = 1 then (some true) else (if a0_4 = 2 then (some true) else (if a0_4 = 4 then (some true) else (some (a0_4 == 8)))))) = some r := by rw [if_neg (show ¬ (false = true) by decide)] at H; exact H
                  clear H
                  have H := H1
                  clear H1
                  by_cases c49 : a0_3 < 0
                  · rw [if_pos c49] at H
                    have c49b0 : decide (a0_3 < 0) = true := decide_eq_true c49
                    clear c49
                    obtain rfl := Option.some.inj H
                    have hcz50_0 : wc.cell? ⟨gb115, 0, none⟩ = some (.int .u8 a0_0) := (bC_ BK115.out 0).trans rfl
                    have hcz50_1 : wc.cell? ⟨gb115, 1, none⟩ = some (.int .i64 a0_1) := (bC_ BK115.out 1).trans rfl
                    have hcz50_2 : wc.cell? ⟨gb115, 2, none⟩ = some (.int .i64 a0_2) := (bC_ BK115.out 2).trans rfl
                    have hcz50_3 : wc.cell? ⟨gb115, 3, none⟩ = some (.int .i64 a0_3) := (bC_ BK115.out 3).trans rfl
                    have hcz50_4 : wc.cell? ⟨gb115, 4, none⟩ = some (.int .i64 a0_4) := (bC_ BK115.out 4).trans rfl
                    have hcz50_5 : wc.cell? ⟨gb115, 5, none⟩ = some (.int .i64 a0_5) := (bC_ BK115.out 5).trans rfl
                    have hcz50_6 : wc.cell? ⟨gb115, 6, none⟩ = some (.bool false) := (bC_ BK115.out 6).trans rfl
                    have hcz50_7 : wc.cell? ⟨gb115, 7, none⟩ = some (.int .i64 a0_7) := (bC_ BK115.out 7).trans rfl
                    have hfz50_0 := bF_ BK115.out 0
                    have hfz50_1 := bF_ BK115.out 1
                    have hfz50_2 := bF_ BK115.out 2
                    have hfz50_3 := bF_ BK115.out 3
                    have hfz50_4 := bF_ BK115.out 4
                    have hfz50_5 := bF_ BK115.out 5
                    have hfz50_6 := bF_ BK115.out 6
                    have hfz50_7 := bF_ BK115.out 7
                    go_wp2
                    go_ret
                    exact ⟨by first | rfl | (simp [errW_none, errW_some] <;> rfl) | (simp [*, errW_none, errW_some] <;> rfl), by repeat (first | (with_reducible first | exact HB.out | apply bX_ | apply bW_ | apply bY_ | refine bS_ ?_ GE115.out) | exact HB.out)⟩
                  · rw [if_neg c49] at H
                    have c49b0 : decide (a0_3 < 0) = false := decide_eq_false c49
                    clear c49
                    by_cases c51 : a0_4 = 1
                    · rw [if_pos c51] at H
                      have c51b0 : (a0_4 == 1) = true := beq_iff_eq.mpr c51
                      have c51b1 : (a0_4 != 1) = false := bne_eq_false_iff_eq.mpr c51
                      clear c51
                      obtain rfl := Option.some.inj H
                      have hcz52_0 : wc.cell? ⟨gb115, 0, none⟩ = some (.int .u8 a0_0) := (bC_ BK115.out 0).trans rfl
                      have hcz52_1 : wc.cell? ⟨gb115, 1, none⟩ = some (.int .i64 a0_1) := (bC_ BK115.out 1).trans rfl
                      have hcz52_2 : wc.cell? ⟨gb115, 2, none⟩ = some (.int .i64 a0_2) := (bC_ BK115.out 2).trans rfl
                      have hcz52_3 : wc.cell? ⟨gb115, 3, none⟩ = some (.int .i64 a0_3) := (bC_ BK115.out 3).trans rfl
                      have hcz52_4 : wc.cell? ⟨gb115, 4, none⟩ = some (.int .i64 a0_4) := (bC_ BK115.out 4).trans rfl
                      have hcz52_5 : wc.cell? ⟨gb115, 5, none⟩ = some (.int .i64 a0_5) := (bC_ BK115.out 5).trans rfl
                      have hcz52_6 : wc.cell? ⟨gb115, 6, none⟩ = some (.bool false) := (bC_ BK115.out 6).trans rfl
                      have hcz52_7 : wc.cell? ⟨gb115, 7, none⟩ = some (.int .i64 a0_7) := (bC_ BK115.out 7).trans rfl
                      have hfz52_0 := bF_ BK115.out 0
                      have hfz52_1 := bF_ BK115.out 1
                      have hfz52_2 := bF_ BK115.out 2
                      have hfz52_3 := bF_ BK115.out 3
                      have hfz52_4 := bF_ BK115.out 4
                      have hfz52_5 := bF_ BK115.out 5
                      have hfz52_6 := bF_ BK115.out 6
                      have hfz52_7 := bF_ BK115.out 7
                      go_wp2
                      go_ret
                      exact ⟨by first | rfl | (simp [errW_none, errW_some] <;> rfl) | (simp [*, errW_none, errW_some] <;> rfl), by repeat (first | (with_reducible first | exact HB.out | apply bX_ | apply bW_ | apply bY_ | refine bS_ ?_ GE115.out) | exact HB.out)⟩
                    · rw [if_neg c51] at H
                      have c51b0 : (a0_4 == 1) = false := beq_eq_false_iff_ne.mpr c51
                      have c51b1 : (a0_4 != 1) = true := bne_iff_ne.mpr c51
                      by_cases c53 : a0_4 = 2
                      · rw [if_pos c53] at H
                        have c53b0 : (a0_4 == 2) = true := beq_iff_eq.mpr c53
                        have c53b1 : (a0_4 != 2) = false := bne_eq_false_iff_eq.mpr c53
                        clear c53
                        obtain rfl := Option.some.inj H
                        have hcz54_0 : wc.cell? ⟨gb115, 0, none⟩ = some (.int .u8 a0_0) := (bC_ BK115.out 0).trans rfl
                        have hcz54_1 : wc.cell? ⟨gb115, 1, none⟩ = some (.int .i64 a0_1) := (bC_ BK115.out 1).trans rfl
                        have hcz54_2 : wc.cell? ⟨gb115, 2, none⟩ = some (.int .i64 a0_2) := (bC_ BK115.out 2).trans rfl
                        have hcz54_3 : wc.cell? ⟨gb115, 3, none⟩ = some (.int .i64 a0_3) := (bC_ BK115.out 3).trans rfl
                        have hcz54_4 : wc.cell? ⟨gb115, 4, none⟩ = some (.int .i64 a0_4) := (bC_ BK115.out 4).trans rfl
                        have hcz54_5 : wc.cell? ⟨gb115, 5, none⟩ = some (.int .i64 a0_5) := (bC_ BK115.out 5).trans rfl
                        have hcz54_6 : wc.cell? ⟨gb115, 6, none⟩ = some (.bool false) := (bC_ BK115.out 6).trans rfl
                        have hcz54_7 : wc.cell? ⟨gb115, 7, none⟩ = some (.int .i64 a0_7) := (bC_ BK115.out 7).trans rfl
                        have hfz54_0 := bF_ BK115.out 0
                        have hfz54_1 := bF_ BK115.out 1
                        have hfz54_2 := bF_ BK115.out 2
                        have hfz54_3 := bF_ BK115.out 3
                        have hfz54_4 := bF_ BK115.out 4
                        have hfz54_5 := bF_ BK115.out 5
                        have hfz54_6 := bF_ BK115.out 6
                        have hfz54_7 := bF_ BK115.out 7
                        go_wp2
                        go_ret
                        exact ⟨by first | rfl | (simp [errW_none, errW_some] <;> rfl) | (simp [*, errW_none, errW_some] <;> rfl), by repeat (first | (with_reducible first | exact HB.out | apply bX_ | apply bW_ | apply bY_ | refine bS_ ?_ GE115.out) | exact HB.out)⟩
                      · rw [if_neg c53] at H
                        have c53b0 : (a0_4 == 2) = false := beq_eq_false_iff_ne.mpr c53
                        have c53b1 : (a0_4 != 2) = true := bne_iff_ne.mpr c53
                        by_cases c55 : a0_4 = 4
                        · rw [if_pos c55] at H
                          have c55b0 : (a0_4 == 4) = true := beq_iff_eq.mpr c55
                          have c55b1 : (a0_4 != 4) = false := bne_eq_false_iff_eq.mpr c55
                          clear c55
                          obtain rfl := Option.some.inj H
                          have hcz56_0 : wc.cell? ⟨gb115, 0, none⟩ = some (.int .u8 a0_0) := (bC_ BK115.out 0).trans rfl
                          have hcz56_1 : wc.cell? ⟨gb115, 1, none⟩ = some (.int .i64 a0_1) := (bC_ BK115.out 1).trans rfl
                          have hcz56_2 : wc.cell? ⟨gb115, 2, none⟩ = some (.int .i64 a0_2) := (bC_ BK115.out 2).trans rfl
                          have hcz56_3 : wc.cell? ⟨gb115, 3, none⟩ = some (.int .i64 a0_3) := (bC_ BK115.out 3).trans rfl
                          have hcz56_4 : wc.cell? ⟨gb115, 4, none⟩ = some (.int .i64 a0_4) := (bC_ BK115.out 4).trans rfl
                          have hcz56_5 : wc.cell? ⟨gb115, 5, none⟩ = some (.int .i64 a0_5) := (bC_ BK115.out 5).trans rfl
                          have hcz56_6 : wc.cell? ⟨gb115, 6, none⟩ = some (.bool false) := (bC_ BK115.out 6).trans rfl
                          have hcz56_7 : wc.cell? ⟨gb115, 7, none⟩ = some (.int .i64 a0_7) := (bC_ BK115.out 7).trans rfl
                          have hfz56_0 := bF_ BK115.out 0
                          have hfz56_1 := bF_ BK115.out 1
                          have hfz56_2 := bF_ BK115.out 2
                          have hfz56_3 := bF_ BK115.out 3
                          have hfz56_4 := bF_ BK115.out 4
                          have hfz56_5 := bF_ BK115.out 5
                          have hfz56_6 := bF_ BK115.out 6
                          have hfz56_7 := bF_ BK115.out 7
                          go_wp2
                          go_ret
                          exact ⟨by first | rfl | (simp [errW_none, errW_some] <;> rfl) | (simp [*, errW_none, errW_some] <;> rfl), by repeat (first | (with_reducible first | exact HB.out | apply bX_ | apply bW_ | apply bY_ | refine bS_ ?_ GE115.out) | exact HB.out)⟩
                        · rw [if_neg c55] at H
                          have c55b0 : (a0_4 == 4) = false := beq_eq_false_iff_ne.mpr c55
                          have c55b1 : (a0_4 != 4) = true := bne_iff_ne.mpr c55
                          obtain rfl := Option.some.inj H
                          have hcz57_0 : wc.cell? ⟨gb115, 0, none⟩ = some (.int .u8 a0_0) := (bC_ BK115.out 0).trans rfl
                          have hcz57_1 : wc.cell? ⟨gb115, 1, none⟩ = some (.int .i64 a0_1) := (bC_ BK115.out 1).trans rfl
                          have hcz57_2 : wc.cell? ⟨gb115, 2, none⟩ = some (.int .i64 a0_2) := (bC_ BK115.out 2).trans rfl
                          have hcz57_3 : wc.cell? ⟨gb115, 3, none⟩ = some (.int .i64 a0_3) := (bC_ BK115.out 3).trans rfl
                          have hcz57_4 : wc.cell? ⟨gb115, 4, none⟩ = some (.int .i64 a0_4) := (bC_ BK115.out 4).trans rfl
                          have hcz57_5 : wc.cell? ⟨gb115, 5, none⟩ = some (.int .i64 a0_5) := (bC_ BK115.out 5).trans rfl
                          have hcz57_6 : wc.cell? ⟨gb115, 6, none⟩ = some (.bool false) := (bC_ BK115.out 6).trans rfl
                          have hcz57_7 : wc.cell? ⟨gb115, 7, none⟩ = some (.int .i64 a0_7) := (bC_ BK115.out 7).trans rfl
                          have hfz57_0 := bF_ BK115.out 0
                          have hfz57_1 := bF_ BK115.out 1
                          have hfz57_2 := bF_ BK115.out 2
                          have hfz57_3 := bF_ BK115.out 3
                          have hfz57_4 := bF_ BK115.out 4
                          have hfz57_5 := bF_ BK115.out 5
                          have hfz57_6 := bF_ BK115.out 6
                          have hfz57_7 := bF_ BK115.out 7
                          go_wp2
                          go_ret
                          exact ⟨by first | rfl | (simp [errW_none, errW_some] <;> rfl) | (simp [*, errW_none, errW_some] <;> rfl), by repeat (first | (with_reducible first | exact HB.out | apply bX_ | apply bW_ | apply bY_ | refine bS_ ?_ GE115.out) | exact HB.out)⟩
end Go.Proofs.YtpmclnlgipphmaaDoor.B
