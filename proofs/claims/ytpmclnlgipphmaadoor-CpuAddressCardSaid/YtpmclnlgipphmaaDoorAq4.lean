/- Words and walks that were printed. -/
import Derived.Test.YtpmclnlgipphmaaDoorAq3
namespace Go.Proofs.YtpmclnlgipphmaaDoor.B
open Go.RowKit Go.Proofs.YtpmclnlgipphmaaDoorW.PrintWords Go.Proofs.YtpmclnlgipphmaaDoorW.PrintLast Go.Proofs.YtpmclnlgipphmaaDoorW.PrintMore
attribute [local go_sem] max2_int min2_int max_two min_two max_three min_three max_four min_four   -- for this text's walks alone
set_option linter.unusedVariables false
set_option linter.unusedSimpArgs false
attribute [local go_sem high] eqA36
def operand_Right.j0 : Nat → Bool → Int → Int → Int → Int → Int → Int → Bool → Int → Option (Bool)
  | 0, _, _, _, _, _, _, _, _, _ => none
  | k + 1, x22, x104000, x104001, x104002, x104003, x104004, x104005, x104006, x104007 => if x22 = true then (some false) else (if x104006 = true then (if x104002 = (-1) then (if x104003 = (-1) then (some (x104004 == 1)) else (some false)) else (some false)) else (if x104002 ≥ (-1) then (if x104002 < 16 then (if x104003 ≥ (-1) then (if x104003 < 16 then (if x104003 = 4 then (some false) else ((operand_scaled.f x104000 x104001 x104002 x104003 x104004 x104005 x104006 x104007).bind fun t112 => (some t112))) else (some false)) else (some false)) else (some false)) else (some false)))
def operand_Right.f (k : Nat) (a0_0 : Int) (a0_1 : Int) (a0_2 : Int) (a0_3 : Int) (a0_4 : Int) (a0_5 : Int) (a0_6 : Bool) (a0_7 : Int) : Option (Bool) := if a0_0 = 1 then (if a0_1 ≥ 0 then (if a0_1 < 16 then ((operand_Reg.f a0_1).bind fun bt104 => (some (a0_0 == bt104.1 && (a0_1 == bt104.2.1 && (a0_2 == bt104.2.2.1 && (a0_3 == bt104.2.2.2.1 && (a0_4 == bt104.2.2.2.2.1 && (a0_5 == bt104.2.2.2.2.2.1 && (a0_6 == bt104.2.2.2.2.2.2.1 && (a0_7 == bt104.2.2.2.2.2.2.2)))))))))) else (some false)) else (some false)) else (if a0_0 = 2 then (if a0_1 = 0 then (if a0_7 = 0 then (operand_Right.j0 k ((wrap64 (wrap32 (a0_5))) != a0_5) a0_0 a0_1 a0_2 a0_3 a0_4 a0_5 a0_6 a0_7) else (operand_Right.j0 k true a0_0 a0_1 a0_2 a0_3 a0_4 a0_5 a0_6 a0_7)) else (operand_Right.j0 k true a0_0 a0_1 a0_2 a0_3 a0_4 a0_5 a0_6 a0_7)) else (operand_Right.j0 k true a0_0 a0_1 a0_2 a0_3 a0_4 a0_5 a0_6 a0_7))
def operand_Right.T2 : Bool × List (List Nat × List Nat) := (true, [([], []), ([0], [0]), ([1], [1]), ([2], [2]), ([3], [3]), ([4, 3], [3, 4]), ([5, 3], [3, 5]), ([3, 6], [3, 6]), ([7, 3], [7]), ([8], [8]), ([8], [8]), ([10, 8], [8, 10]), ([11, 8, 8], [8, 11]), ([9, 12, 8], [8, 9, 12]), ([8, 13], [8, 13]), ([14, 12, 0, 1, 2, 3, 4, 5, 6, 7, 8, 9, 10, 11, 12, 13, 14], [14])])
def operand_Right.B2 : List Nat := [0, 1, 3, 7, 15, 31, 63, 127, 255, 511, 511, 1535, 3583, 8191, 16383, 32767]
theorem operand_Right.tab2 : rtab .any (opsOf Tryd.f18 2) = operand_Right.T2 := by kernel_rfl
theorem operand_Right.bits2 : waitsOk operand_Right.T2.2 operand_Right.B2 = true := by kernel_rfl
set_option maxHeartbeats 8000000 in
set_option maxRecDepth 100000 in
theorem operand_Right.calls (k : Nat) (a0_0 : Int) (a0_1 : Int) (a0_2 : Int) (a0_3 : Int) (a0_4 : Int) (a0_5 : Int) (a0_6 : Bool) (a0_7 : Int) (r : Bool) (w : World) (h : operand_Right.f k a0_0 a0_1 a0_2 a0_3 a0_4 a0_5 a0_6 a0_7 = some r) :
    Calls Tryd.prog 18 #[.agg #[.int .u8 a0_0, .int .i64 a0_1, .int .i64 a0_2, .int .i64 a0_3, .int .i64 a0_4, .int .i64 a0_5, .bool a0_6, .int .i64 a0_7]] w fun e w' => e = .returned (.bool r) ∧ Below w.heap.size w w' := by
  have hu36 := Tryd.underlying36
  have HB := Aside0.mk (Below.refl w.heap.size w)
  have H : (if a0_0 = 1 then (if a0_1 ≥ 0 then (if a0_1 < 16 then ((operand_Reg.f a0_1).bind fun bt104 => (some (a0_0 == bt104.1 && (a0_1 == bt104.2.1 && (a0_2 == bt104.2.2.1 && (a0_3 == bt104.2.2.2.1 && (a0_4 == bt104.2.2.2.2.1 && (a0_5 == bt104.2.2.2.2.2.1 && (a0_6 == bt104.2.2.2.2.2.2.1 && (a0_7 == bt104.2.2.2.2.2.2.2)))))))))) else (some false)) else (some false)) else (if a0_0 = 2 then (if a0_1 = 0 then (if a0_7 = 0 then (operand_Right.j0 k ((wrap64 (wrap32 (a0_5))) != a0_5) a0_0 a0_1 a0_2 a0_3 a0_4 a0_5 a0_6 a0_7) else (operand_Right.j0 k true a0_0 a0_1 a0_2 a0_3 a0_4 a0_5 a0_6 a0_7)) else (operand_Right.j0 k true a0_0 a0_1 a0_2 a0_3 a0_4 a0_5 a0_6 a0_7)) else (operand_Right.j0 k true a0_0 a0_1 a0_2 a0_3 a0_4 a0_5 a0_6 a0_7))) = some r := h
  clear h
  by_cases c2 : a0_0 = 1
  · rw [if_pos c2] at H
    have c2b0 : (a0_0 == 1) = true := beq_iff_eq.mpr c2
    have c2b1 : (a0_0 != 1) = false := bne_eq_false_iff_eq.mpr c2
    clear c2
    by_cases c3 : a0_1 ≥ 0
    · rw [if_pos c3] at H
      have c3b0 : decide (0 ≤ a0_1) = true := decide_eq_true c3
      clear c3
      by_cases c4 : a0_1 < 16
      · rw [if_pos c4] at H
        have c4b0 : decide (a0_1 < 16) = true := decide_eq_true c4
        clear c4
        replace H := Option.bind_eq_some_iff.mp H
        obtain ⟨⟨t104, t105, t106, t107, t108, t109, t110, t111⟩, A50, H⟩ := H
        replace H : (some (a0_0 == t104 && (a0_1 == t105 && (a0_2 == t106 && (a0_3 == t107 && (a0_4 == t108 && (a0_5 == t109 && (a0_6 == t110 && (a0_7 == t111))))))))) = some r := H
        have A5 := Aside0.mk A50
        clear A50
        obtain rfl := Option.some.inj H
        go_enter Tryd.func18, Tryd.ntmps18
        try go_wp2_with (first | ((with_reducible refine gate_dst (N := 1) rfl ?_); refine box_event ?hg (N := 1) ?hd (cs := #[.int .u8 a0_0, .int .i64 a0_1, .int .i64 a0_2, .int .i64 a0_3, .int .i64 a0_4, .int .i64 a0_5, .bool a0_6, .int .i64 a0_7]) (t := 36) ?hr ?_; (case hd => rfl); (case hg => rfl); (case hr => first | (go_simp; done) | (go_simp; rfl)); intro gb103 hg w6 hbox hb; have n0_ := Aside0.mk (below_step (by repeat (first | (with_reducible first | exact HB.out | apply bX_ | apply bW_ | apply bY_) | exact HB.out)) hb); have n1_ := Aside0.mk (hbox); have n2_ := Aside0.mk ((by rw [hg]; exact (below_size (by repeat (first | (with_reducible first | exact HB.out | apply bX_ | apply bW_ | apply bY_) | exact HB.out))) : w.heap.size ≤ gb103)); have n3_ := Aside0.mk ((by rw [hg]; exact (below_size (by repeat (first | (with_reducible first | exact HB.out | apply bX_ | apply bW_ | apply bY_) | exact HB.out))) : w.heap.size ≤ gb103)); clear HB; have HB := n0_; have BK103 := n1_; have GW103 := n2_; have GE103 := n3_; clear n0_ n1_ n2_ n3_; clear hb hbox hg; have hcz7_0 : w6.cell? ⟨gb103, 0, none⟩ = some (.int .u8 a0_0) := (bC_ BK103.out 0).trans rfl; have hcz7_1 : w6.cell? ⟨gb103, 1, none⟩ = some (.int .i64 a0_1) := (bC_ BK103.out 1).trans rfl; have hcz7_2 : w6.cell? ⟨gb103, 2, none⟩ = some (.int .i64 a0_2) := (bC_ BK103.out 2).trans rfl; have hcz7_3 : w6.cell? ⟨gb103, 3, none⟩ = some (.int .i64 a0_3) := (bC_ BK103.out 3).trans rfl; have hcz7_4 : w6.cell? ⟨gb103, 4, none⟩ = some (.int .i64 a0_4) := (bC_ BK103.out 4).trans rfl; have hcz7_5 : w6.cell? ⟨gb103, 5, none⟩ = some (.int .i64 a0_5) := (bC_ BK103.out 5).trans rfl; have hcz7_6 : w6.cell? ⟨gb103, 6, none⟩ = some (.bool a0_6) := (bC_ BK103.out 6).trans rfl; have hcz7_7 : w6.cell? ⟨gb103, 7, none⟩ = some (.int .i64 a0_7) := (bC_ BK103.out 7).trans rfl; have hfz7_0 := bF_ BK103.out 0; have hfz7_1 := bF_ BK103.out 1; have hfz7_2 := bF_ BK103.out 2; have hfz7_3 := bF_ BK103.out 3; have hfz7_4 := bF_ BK103.out 4; have hfz7_5 := bF_ BK103.out 5; have hfz7_6 := bF_ BK103.out 6; have hfz7_7 := bF_ BK103.out 7))
        have n0_ := Aside0.mk (bD_ BK103.out)
        have n1_ := Aside0.mk (bY_ HB.out)
        clear BK103
        clear HB
        have BK103 := n0_
        have HB := n1_
        clear n0_ n1_
        refine start_ (n := 16) (S := fun w' => w'.cell? ⟨gb103, 0, none⟩ = some (.int .u8 a0_0) ∧ w'.cell? ⟨gb103, 1, none⟩ = some (.int .i64 a0_1) ∧ w'.cell? ⟨gb103, 2, none⟩ = some (.int .i64 a0_2) ∧ w'.cell? ⟨gb103, 3, none⟩ = some (.int .i64 a0_3) ∧ w'.cell? ⟨gb103, 4, none⟩ = some (.int .i64 a0_4) ∧ w'.cell? ⟨gb103, 5, none⟩ = some (.int .i64 a0_5) ∧ w'.cell? ⟨gb103, 6, none⟩ = some (.bool a0_6) ∧ w'.cell? ⟨gb103, 7, none⟩ = some (.int .i64 a0_7)) (ds := []) #[false, false, false, false, false, false, false, false, false, false, false, false, false, false, false, false] (by kernel_rfl) rfl rfl ⟨(bC_ BK103.out 0).trans rfl, (bC_ BK103.out 1).trans rfl, (bC_ BK103.out 2).trans rfl, (bC_ BK103.out 3).trans rfl, (bC_ BK103.out 4).trans rfl, (bC_ BK103.out 5).trans rfl, (bC_ BK103.out 6).trans rfl, (bC_ BK103.out 7).trans rfl⟩ (fun hHeld => ?_); refine with_tabW operand_Right.tab2 operand_Right.bits2 (fun HT_ HW_ => ?_)
        generalize w6.drew = w8 at BK103 HB hHeld ⊢
        refine pure_ (i := 0) (N := some 7) (v := ?_) (a' := ?_) #[true, false, false, false, false, false, false, false, false, false, false, false, false, false, false, false] rfl rfl (any_of HT_.out (by kernel_rfl)) (fun _ _ _ h => h) (Or.inl ⟨by rfl, ?_⟩) ?_ ?_
        rotate_left
        · intro w'
          go_simp
          with_reducible rfl
        rotate_left
        · simp only [Act.put, List.setIfInBounds_toArray, List.set_cons_zero, List.set_cons_succ, i64_w, i32_w]
          rfl
        refine take_ (i := 1) (N := some 8) (v := ?_) (a' := ?_) #[true, true, false, false, false, false, false, false, false, false, false, false, false, false, false, false] rfl rfl (take_ofW HT_.out HW_.out (by kernel_rfl)) (fun _ _ _ h => h) (Or.inl ⟨by rfl, ?_⟩) hHeld ?_ ?_
        rotate_left
        · rintro w' ⟨s0, s1, s2, s3, s4, s5, s6, s7⟩
          go_simp
          with_reducible rfl
        rotate_left
        · simp only [Act.put, List.setIfInBounds_toArray, List.set_cons_zero, List.set_cons_succ, i64_w, i32_w]
          rfl
        refine pure_ (i := 2) (N := some 9) (v := ?_) (a' := ?_) #[true, true, true, false, false, false, false, false, false, false, false, false, false, false, false, false] rfl rfl (any_of HT_.out (by kernel_rfl)) (fun _ _ _ h => h) (Or.inl ⟨by rfl, ?_⟩) ?_ ?_
        rotate_left
        · intro w'
          go_simp
          with_reducible rfl
        rotate_left
        · simp only [Act.put, List.setIfInBounds_toArray, List.set_cons_zero, List.set_cons_succ, i64_w, i32_w]
          rfl
        refine pure_ (i := 3) (N := some 10) (v := ?_) (a' := ?_) #[true, true, true, true, false, false, false, false, false, false, false, false, false, false, false, false] rfl rfl (any_of HT_.out (by kernel_rfl)) (fun _ _ _ h => h) (Or.inl ⟨by rfl, ?_⟩) ?_ ?_
        rotate_left
        · intro w'
          go_simp
          with_reducible rfl
        rotate_left
        · simp only [Act.put, List.setIfInBounds_toArray, List.set_cons_zero, List.set_cons_succ, i64_w, i32_w]
          rfl
        refine pure_ (i := 4) (N := some 11) (v := ?_) (a' := ?_) #[true, true, true, true, true, false, false, false, false, false, false, false, false, false, false, false] rfl rfl (any_of HT_.out (by kernel_rfl)) (fun _ _ _ h => h) (Or.inl ⟨by rfl, ?_⟩) ?_ ?_
        rotate_left
        · intro w'
          go_simp
          with_reducible rfl
        rotate_left
        · simp only [Act.put, List.setIfInBounds_toArray, List.set_cons_zero, List.set_cons_succ, i64_w, i32_w]
          rfl
        refine take_ (i := 5) (N := some 12) (v := ?_) (a' := ?_) #[true, true, true, true, true, true, false, false, false, false, false, false, false, false, false, false] rfl rfl (take_ofW HT_.out HW_.out (by kernel_rfl)) (fun _ _ _ h => h) (Or.inl ⟨by rfl, ?_⟩) hHeld ?_ ?_
        rotate_left
        · rintro w' ⟨s0, s1, s2, s3, s4, s5, s6, s7⟩
          go_simp
          with_reducible rfl
        rotate_left
        · simp only [Act.put, List.setIfInBounds_toArray, List.set_cons_zero, List.set_cons_succ, i64_w, i32_w]
          rfl
        refine pure_ (i := 6) (N := some 13) (v := ?_) (a' := ?_) #[true, true, true, true, true, true, true, false, false, false, false, false, false, false, false, false] rfl rfl (any_of HT_.out (by kernel_rfl)) (fun _ _ _ h => h) (Or.inl ⟨by rfl, ?_⟩) ?_ ?_
        rotate_left
        · intro w'
          go_simp
          with_reducible rfl
        rotate_left
        · simp only [Act.put, List.setIfInBounds_toArray, List.set_cons_zero, List.set_cons_succ, i64_w, i32_w]
          rfl
        refine pure_ (i := 7) (N := some 14) (v := ?_) (a' := ?_) #[true, true, true, true, true, true, true, true, false, false, false, false, false, false, false, false] rfl rfl (any_of HT_.out (by kernel_rfl)) (fun _ _ _ h => h) (Or.inl ⟨by rfl, ?_⟩) ?_ ?_
        rotate_left
        · intro w'
          go_simp
          with_reducible rfl
        rotate_left
        · simp only [Act.put, List.setIfInBounds_toArray, List.set_cons_zero, List.set_cons_succ, i64_w, i32_w]
          rfl
        refine pure_ (i := 8) (N := some 15) (v := ?_) (a' := ?_) #[true, true, true, true, true, true, true, true, true, false, false, false, false, false, false, false] rfl rfl (any_of HT_.out (by kernel_rfl)) (fun _ _ _ h => h) (Or.inl ⟨by rfl, ?_⟩) ?_ ?_
        rotate_left
        · intro w'
          go_simp
          with_reducible rfl
        rotate_left
        · simp only [Act.put, List.setIfInBounds_toArray, List.set_cons_zero, List.set_cons_succ, i64_w, i32_w]
          rfl
        refine pure_ (i := 10) (N := some 17) (v := ?_) (a' := ?_) #[true, true, true, true, true, true, true, true, true, false, true, false, false, false, false, false] rfl rfl (any_of HT_.out (by kernel_rfl)) (fun _ _ _ h => h) (Or.inl ⟨by rfl, ?_⟩) ?_ ?_
        rotate_left
        · intro w'
          go_simp
          with_reducible rfl
        rotate_left
        · simp only [Act.put, List.setIfInBounds_toArray, List.set_cons_zero, List.set_cons_succ, i64_w, i32_w]
          rfl
        refine take_ (i := 9) (N := some 16) (v := ?_) (a' := ?_) #[true, true, true, true, true, true, true, true, true, true, true, false, false, false, false, false] rfl rfl (take_ofW HT_.out HW_.out (by kernel_rfl)) (fun _ _ _ h => h) (Or.inl ⟨by rfl, ?_⟩) hHeld ?_ ?_
        rotate_left
        · rintro w' ⟨s0, s1, s2, s3, s4, s5, s6, s7⟩
          go_simp
          with_reducible rfl
        rotate_left
        · simp only [Act.put, List.setIfInBounds_toArray, List.set_cons_zero, List.set_cons_succ, i64_w, i32_w]
          rfl
        refine take_ (i := 11) (N := some 18) (v := ?_) (a' := ?_) #[true, true, true, true, true, true, true, true, true, true, true, true, false, false, false, false] rfl rfl (take_ofW HT_.out HW_.out (by kernel_rfl)) (fun _ _ _ h => h) (Or.inl ⟨by rfl, ?_⟩) hHeld ?_ ?_
        rotate_left
        · rintro w' ⟨s0, s1, s2, s3, s4, s5, s6, s7⟩
          go_simp
          with_reducible rfl
        rotate_left
        · simp only [Act.put, List.setIfInBounds_toArray, List.set_cons_zero, List.set_cons_succ, i64_w, i32_w]
          rfl
        refine one_ (i := 12) (N := some 19) #[true, true, true, true, true, true, true, true, true, true, true, true, true, false, false, false] rfl rfl (one_of HT_.out (by kernel_rfl)) (by decide) (fun K hK => ?_)
        refine goes_ Tryd.func21 (by kernel_rfl) rfl #[.int .i64 a0_1] (by rfl) rfl rfl (by (try simp only [List.map_toArray, List.map_cons, List.map_nil]); first | done | rfl | (simp only [List.length_drop, List.length_take]; rfl)) ?_
        with_reducible refine (operand_Reg.calls a0_1 t104 t105 t106 t107 t108 t109 t110 t111 _ A5.out).mono ?_
        rintro e w9 ⟨rfl, hb⟩
        refine ⟨_, rfl, ?_⟩
        have n0_ := Aside0.mk (blk_below (g := gb103) (o := .cells #[.int .u8 a0_0, .int .i64 a0_1, .int .i64 a0_2, .int .i64 a0_3, .int .i64 a0_4, .int .i64 a0_5, .bool a0_6, .int .i64 a0_7] 36 (0, 0)) (by (with_reducible repeat (first | refine bN_ ?_ _ | refine bD_ ?_ | refine bA_ ?_ _)); exact BK103.out) hb)
        have n1_ := Aside0.mk (below_step (by repeat (first | (with_reducible first | exact HB.out | apply bX_ | apply bW_ | apply bY_ | refine bS_ ?_ GE103.out) | exact HB.out)) hb)
        clear BK103
        clear HB
        have BK103 := n0_
        have HB := n1_
        clear n0_ n1_
        (try clear hb)
        (try clear hb2)
        (try clear hk)
        (try clear hi)
        refine hK.out _ _ ⟨(bC_ BK103.out 0).trans rfl, (bC_ BK103.out 1).trans rfl, (bC_ BK103.out 2).trans rfl, (bC_ BK103.out 3).trans rfl, (bC_ BK103.out 4).trans rfl, (bC_ BK103.out 5).trans rfl, (bC_ BK103.out 6).trans rfl, (bC_ BK103.out 7).trans rfl⟩ (fun hHeld => ?_)
        clear hK K
        refine norm_ (a' := ?_) ?_ ?_
        rotate_left
        · show Act.put _ (some 19) _ = _
          simp only [Act.put, List.setIfInBounds_toArray, List.set_cons_zero, List.set_cons_succ, i64_w, i32_w]
          rfl
        refine pure_ (i := 13) (N := some 20) (v := ?_) (a' := ?_) #[true, true, true, true, true, true, true, true, true, true, true, true, true, true, false, false] rfl rfl (any_of HT_.out (by kernel_rfl)) (fun _ _ _ h => h) (Or.inl ⟨by rfl, ?_⟩) ?_ ?_
        rotate_left
        · intro w'
          go_simp
          with_reducible rfl
        rotate_left
        · simp only [Act.put, List.setIfInBounds_toArray, List.set_cons_zero, List.set_cons_succ, i64_w, i32_w]
          rfl
        refine pure_ (i := 14) (N := some 21) (v := ?_) (a' := ?_) #[true, true, true, true, true, true, true, true, true, true, true, true, true, true, true, false] rfl rfl (any_of HT_.out (by kernel_rfl)) (fun _ _ _ h => h) (Or.inl ⟨by rfl, ?_⟩) ?_ ?_
        rotate_left
        · intro w'
          go_simp
          with_reducible rfl
        rotate_left
        · simp only [Act.put, List.setIfInBounds_toArray, List.set_cons_zero, List.set_cons_succ, i64_w, i32_w]
          rfl
        refine pure_ (i := 15) (N := some 2) (v := ?_) (a' := ?_) #[true, true, true, true, true, true, true, true, true, true, true, true, true, true, true, true] rfl rfl (any_of HT_.out (by kernel_rfl)) (fun _ _ _ h => h) (Or.inl ⟨by rfl, ?_⟩) ?_ ?_
        rotate_left
        · intro w'
          go_simp
          with_reducible rfl
        rotate_left
        · simp only [Act.put, List.setIfInBounds_toArray, List.set_cons_zero, List.set_cons_succ, i64_w, i32_w]
          rfl
        refine done_ (done_of HT_.out (by kernel_rfl)) ?_
        try go_wp2
        go_ret
        exact ⟨by first | rfl | (simp [errW_none, errW_some] <;> rfl) | (simp [*, errW_none, errW_some] <;> rfl), by repeat (first | (with_reducible first | exact HB.out | apply bX_ | apply bW_ | apply bY_ | refine bS_ ?_ GE103.out) | exact HB.out)⟩
      · rw [if_neg c4] at H
        have c4b0 : decide (a0_1 < 16) = false := decide_eq_false c4
        clear c4
        obtain rfl := Option.some.inj H
        go_enter Tryd.func18, Tryd.ntmps18
        try go_wp2_with (first | ((with_reducible refine gate_dst (N := 1) rfl ?_); refine box_event ?hg (N := 1) ?hd (cs := #[.int .u8 a0_0, .int .i64 a0_1, .int .i64 a0_2, .int .i64 a0_3, .int .i64 a0_4, .int .i64 a0_5, .bool a0_6, .int .i64 a0_7]) (t := 36) ?hr ?_; (case hd => rfl); (case hg => rfl); (case hr => first | (go_simp; done) | (go_simp; rfl)); intro gb103 hg w10 hbox hb; have n0_ := Aside0.mk (below_step (by repeat (first | (with_reducible first | exact HB.out | apply bX_ | apply bW_ | apply bY_) | exact HB.out)) hb); have n1_ := Aside0.mk (hbox); have n2_ := Aside0.mk ((by rw [hg]; exact (below_size (by repeat (first | (with_reducible first | exact HB.out | apply bX_ | apply bW_ | apply bY_) | exact HB.out))) : w.heap.size ≤ gb103)); have n3_ := Aside0.mk ((by rw [hg]; exact (below_size (by repeat (first | (with_reducible first | exact HB.out | apply bX_ | apply bW_ | apply bY_) | exact HB.out))) : w.heap.size ≤ gb103)); clear HB; have HB := n0_; have BK103 := n1_; have GW103 := n2_; have GE103 := n3_; clear n0_ n1_ n2_ n3_; clear hb hbox hg; have hcz11_0 : w10.cell? ⟨gb103, 0, none⟩ = some (.int .u8 a0_0) := (bC_ BK103.out 0).trans rfl; have hcz11_1 : w10.cell? ⟨gb103, 1, none⟩ = some (.int .i64 a0_1) := (bC_ BK103.out 1).trans rfl; have hcz11_2 : w10.cell? ⟨gb103, 2, none⟩ = some (.int .i64 a0_2) := (bC_ BK103.out 2).trans rfl; have hcz11_3 : w10.cell? ⟨gb103, 3, none⟩ = some (.int .i64 a0_3) := (bC_ BK103.out 3).trans rfl; have hcz11_4 : w10.cell? ⟨gb103, 4, none⟩ = some (.int .i64 a0_4) := (bC_ BK103.out 4).trans rfl; have hcz11_5 : w10.cell? ⟨gb103, 5, none⟩ = some (.int .i64 a0_5) := (bC_ BK103.out 5).trans rfl; have hcz11_6 : w10.cell? ⟨gb103, 6, none⟩ = some (.bool a0_6) := (bC_ BK103.out 6).trans rfl; have hcz11_7 : w10.cell? ⟨gb103, 7, none⟩ = some (.int .i64 a0_7) := (bC_ BK103.out 7).trans rfl; have hfz11_0 := bF_ BK103.out 0; have hfz11_1 := bF_ BK103.out 1; have hfz11_2 := bF_ BK103.out 2; have hfz11_3 := bF_ BK103.out 3; have hfz11_4 := bF_ BK103.out 4; have hfz11_5 := bF_ BK103.out 5; have hfz11_6 := bF_ BK103.out 6; have hfz11_7 := bF_ BK103.out 7))
        have n0_ := Aside0.mk (bD_ BK103.out)
        have n1_ := Aside0.mk (bY_ HB.out)
        clear BK103
        clear HB
        have BK103 := n0_
        have HB := n1_
        clear n0_ n1_
        refine start_ (n := 16) (S := fun w' => w'.cell? ⟨gb103, 0, none⟩ = some (.int .u8 a0_0) ∧ w'.cell? ⟨gb103, 1, none⟩ = some (.int .i64 a0_1) ∧ w'.cell? ⟨gb103, 2, none⟩ = some (.int .i64 a0_2) ∧ w'.cell? ⟨gb103, 3, none⟩ = some (.int .i64 a0_3) ∧ w'.cell? ⟨gb103, 4, none⟩ = some (.int .i64 a0_4) ∧ w'.cell? ⟨gb103, 5, none⟩ = some (.int .i64 a0_5) ∧ w'.cell? ⟨gb103, 6, none⟩ = some (.bool a0_6) ∧ w'.cell? ⟨gb103, 7, none⟩ = some (.int .i64 a0_7)) (ds := []) #[false, false, false, false, false, false, false, false, false, false, false, false, false, false, false, false] (by kernel_rfl) rfl rfl ⟨(bC_ BK103.out 0).trans rfl, (bC_ BK103.out 1).trans rfl, (bC_ BK103.out 2).trans rfl, (bC_ BK103.out 3).trans rfl, (bC_ BK103.out 4).trans rfl, (bC_ BK103.out 5).trans rfl, (bC_ BK103.out 6).trans rfl, (bC_ BK103.out 7).trans rfl⟩ (fun hHeld => ?_); refine with_tabW operand_Right.tab2 operand_Right.bits2 (fun HT_ HW_ => ?_)
        generalize w10.drew = w12 at BK103 HB hHeld ⊢
        refine pure_ (i := 0) (N := some 7) (v := ?_) (a' := ?_) #[true, false, false, false, false, false, false, false, false, false, false, false, false, false, false, false] rfl rfl (any_of HT_.out (by kernel_rfl)) (fun _ _ _ h => h) (Or.inl ⟨by rfl, ?_⟩) ?_ ?_
        rotate_left
        · intro w'
          go_simp
          with_reducible rfl
        rotate_left
        · simp only [Act.put, List.setIfInBounds_toArray, List.set_cons_zero, List.set_cons_succ, i64_w, i32_w]
          rfl
        refine take_ (i := 1) (N := some 8) (v := ?_) (a' := ?_) #[true, true, false, false, false, false, false, false, false, false, false, false, false, false, false, false] rfl rfl (take_ofW HT_.out HW_.out (by kernel_rfl)) (fun _ _ _ h => h) (Or.inl ⟨by rfl, ?_⟩) hHeld ?_ ?_
        rotate_left
        · rintro w' ⟨s0, s1, s2, s3, s4, s5, s6, s7⟩
          go_simp
          with_reducible rfl
        rotate_left
        · simp only [Act.put, List.setIfInBounds_toArray, List.set_cons_zero, List.set_cons_succ, i64_w, i32_w]
          rfl
        refine pure_ (i := 2) (N := some 9) (v := ?_) (a' := ?_) #[true, true, true, false, false, false, false, false, false, false, false, false, false, false, false, false] rfl rfl (any_of HT_.out (by kernel_rfl)) (fun _ _ _ h => h) (Or.inl ⟨by rfl, ?_⟩) ?_ ?_
        rotate_left
        · intro w'
          go_simp
          with_reducible rfl
        rotate_left
        · simp only [Act.put, List.setIfInBounds_toArray, List.set_cons_zero, List.set_cons_succ, i64_w, i32_w]
          rfl
        refine pure_ (i := 3) (N := some 10) (v := ?_) (a' := ?_) #[true, true, true, true, false, false, false, false, false, false, false, false, false, false, false, false] rfl rfl (any_of HT_.out (by kernel_rfl)) (fun _ _ _ h => h) (Or.inl ⟨by rfl, ?_⟩) ?_ ?_
        rotate_left
        · intro w'
          go_simp
          with_reducible rfl
        rotate_left
        · simp only [Act.put, List.setIfInBounds_toArray, List.set_cons_zero, List.set_cons_succ, i64_w, i32_w]
          rfl
        refine pure_ (i := 4) (N := some 11) (v := ?_) (a' := ?_) #[true, true, true, true, true, false, false, false, false, false, false, false, false, false, false, false] rfl rfl (any_of HT_.out (by kernel_rfl)) (fun _ _ _ h => h) (Or.inl ⟨by rfl, ?_⟩) ?_ ?_
        rotate_left
        · intro w'
          go_simp
          with_reducible rfl
        rotate_left
        · simp only [Act.put, List.setIfInBounds_toArray, List.set_cons_zero, List.set_cons_succ, i64_w, i32_w]
          rfl
        refine take_ (i := 5) (N := some 12) (v := ?_) (a' := ?_) #[true, true, true, true, true, true, false, false, false, false, false, false, false, false, false, false] rfl rfl (take_ofW HT_.out HW_.out (by kernel_rfl)) (fun _ _ _ h => h) (Or.inl ⟨by rfl, ?_⟩) hHeld ?_ ?_
        rotate_left
        · rintro w' ⟨s0, s1, s2, s3, s4, s5, s6, s7⟩
          go_simp
          with_reducible rfl
        rotate_left
        · simp only [Act.put, List.setIfInBounds_toArray, List.set_cons_zero, List.set_cons_succ, i64_w, i32_w]
          rfl
        refine pure_ (i := 6) (N := some 13) (v := ?_) (a' := ?_) #[true, true, true, true, true, true, true, false, false, false, false, false, false, false, false, false] rfl rfl (any_of HT_.out (by kernel_rfl)) (fun _ _ _ h => h) (Or.inl ⟨by rfl, ?_⟩) ?_ ?_
        rotate_left
        · intro w'
          go_simp
          with_reducible rfl
        rotate_left
        · simp only [Act.put, List.setIfInBounds_toArray, List.set_cons_zero, List.set_cons_succ, i64_w, i32_w]
          rfl
        refine pure_ (i := 7) (N := some 14) (v := ?_) (a' := ?_) #[true, true, true, true, true, true, true, true, false, false, false, false, false, false, false, false] rfl rfl (any_of HT_.out (by kernel_rfl)) (fun _ _ _ h => h) (Or.inl ⟨by rfl, ?_⟩) ?_ ?_
        rotate_left
        · intro w'
          go_simp
          with_reducible rfl
        rotate_left
        · simp only [Act.put, List.setIfInBounds_toArray, List.set_cons_zero, List.set_cons_succ, i64_w, i32_w]
          rfl
        refine pure_ (i := 8) (N := some 15) (v := ?_) (a' := ?_) #[true, true, true, true, true, true, true, true, true, false, false, false, false, false, false, false] rfl rfl (any_of HT_.out (by kernel_rfl)) (fun _ _ _ h => h) (Or.inl ⟨by rfl, ?_⟩) ?_ ?_
        rotate_left
        · intro w'
          go_simp
          with_reducible rfl
        rotate_left
        · simp only [Act.put, List.setIfInBounds_toArray, List.set_cons_zero, List.set_cons_succ, i64_w, i32_w]
          rfl
        refine pure_ (i := 9) (N := some 16) (v := undef) (a' := ?_) #[true, true, true, true, true, true, true, true, true, true, false, false, false, false, false, false] rfl rfl (any_of HT_.out (by kernel_rfl)) (fun _ _ _ h => h) (Or.inr ⟨by rfl, rfl⟩) ?_ ?_
        rotate_left
        · simp only [Act.put, List.setIfInBounds_toArray, List.set_cons_zero, List.set_cons_succ, i64_w, i32_w]
          rfl
        refine pure_ (i := 10) (N := some 17) (v := undef) (a' := ?_) #[true, true, true, true, true, true, true, true, true, true, true, false, false, false, false, false] rfl rfl (any_of HT_.out (by kernel_rfl)) (fun _ _ _ h => h) (Or.inr ⟨by rfl, rfl⟩) ?_ ?_
        rotate_left
        · simp only [Act.put, List.setIfInBounds_toArray, List.set_cons_zero, List.set_cons_succ, i64_w, i32_w]
          rfl
        refine pure_ (i := 11) (N := some 18) (v := undef) (a' := ?_) #[true, true, true, true, true, true, true, true, true, true, true, true, false, false, false, false] rfl rfl (any_of HT_.out (by kernel_rfl)) (fun _ _ _ h => h) (Or.inr ⟨by rfl, rfl⟩) ?_ ?_
        rotate_left
        · simp only [Act.put, List.setIfInBounds_toArray, List.set_cons_zero, List.set_cons_succ, i64_w, i32_w]
          rfl
        refine pure_ (i := 12) (N := some 19) (v := undef) (a' := ?_) #[true, true, true, true, true, true, true, true, true, true, true, true, true, false, false, false] rfl rfl (any_of HT_.out (by kernel_rfl)) (fun _ _ _ h => h) (Or.inr ⟨by rfl, rfl⟩) ?_ ?_
        rotate_left
        · simp only [Act.put, List.setIfInBounds_toArray, List.set_cons_zero, List.set_cons_succ, i64_w, i32_w]
          rfl
        refine pure_ (i := 13) (N := some 20) (v := undef) (a' := ?_) #[true, true, true, true, true, true, true, true, true, true, true, true, true, true, false, false] rfl rfl (any_of HT_.out (by kernel_rfl)) (fun _ _ _ h => h) (Or.inr ⟨by rfl, rfl⟩) ?_ ?_
        rotate_left
        · simp only [Act.put, List.setIfInBounds_toArray, List.set_cons_zero, List.set_cons_succ, i64_w, i32_w]
          rfl
        refine pure_ (i := 14) (N := some 21) (v := ?_) (a' := ?_) #[true, true, true, true, true, true, true, true, true, true, true, true, true, true, true, false] rfl rfl (any_of HT_.out (by kernel_rfl)) (fun _ _ _ h => h) (Or.inl ⟨by rfl, ?_⟩) ?_ ?_
        rotate_left
        · intro w'
          go_simp
          with_reducible rfl
        rotate_left
        · simp only [Act.put, List.setIfInBounds_toArray, List.set_cons_zero, List.set_cons_succ, i64_w, i32_w]
          rfl
        refine pure_ (i := 15) (N := some 2) (v := ?_) (a' := ?_) #[true, true, true, true, true, true, true, true, true, true, true, true, true, true, true, true] rfl rfl (any_of HT_.out (by kernel_rfl)) (fun _ _ _ h => h) (Or.inl ⟨by rfl, ?_⟩) ?_ ?_
        rotate_left
        · intro w'
          go_simp
          with_reducible rfl
        rotate_left
        · simp only [Act.put, List.setIfInBounds_toArray, List.set_cons_zero, List.set_cons_succ, i64_w, i32_w]
          rfl
        refine done_ (done_of HT_.out (by kernel_rfl)) ?_
        try go_wp2
        go_ret
        exact ⟨by first | rfl | (simp [errW_none, errW_some] <;> rfl) | (simp [*, errW_none, errW_some] <;> rfl), by repeat (first | (with_reducible first | exact HB.out | apply bX_ | apply bW_ | apply bY_ | refine bS_ ?_ GE103.out) | exact HB.out)⟩
    · rw [if_neg c3] at H
      have c3b0 : decide (0 ≤ a0_1) = false := decide_eq_false c3
      clear c3
      obtain rfl := Option.some.inj H
      go_enter Tryd.func18, Tryd.ntmps18
      try go_wp2_with (first | ((with_reducible refine gate_dst (N := 1) rfl ?_); refine box_event ?hg (N := 1) ?hd (cs := #[.int .u8 a0_0, .int .i64 a0_1, .int .i64 a0_2, .int .i64 a0_3, .int .i64 a0_4, .int .i64 a0_5, .bool a0_6, .int .i64 a0_7]) (t := 36) ?hr ?_; (case hd => rfl); (case hg => rfl); (case hr => first | (go_simp; done) | (go_simp; rfl)); intro gb103 hg w13 hbox hb; have n0_ := Aside0.mk (below_step (by repeat (first | (with_reducible first | exact HB.out | apply bX_ | apply bW_ | apply bY_) | exact HB.out)) hb); have n1_ := Aside0.mk (hbox); have n2_ := Aside0.mk ((by rw [hg]; exact (below_size (by repeat (first | (with_reducible first | exact HB.out | apply bX_ | apply bW_ | apply bY_) | exact HB.out))) : w.heap.size ≤ gb103)); have n3_ := Aside0.mk ((by rw [hg]; exact (below_size (by repeat (first | (with_reducible first | exact HB.out | apply bX_ | apply bW_ | apply bY_) | exact HB.out))) : w.heap.size ≤ gb103)); clear HB; have HB := n0_; have BK103 := n1_; have GW103 := n2_; have GE103 := n3_; clear n0_ n1_ n2_ n3_; clear hb hbox hg; have hcz14_0 : w13.cell? ⟨gb103, 0, none⟩ = some (.int .u8 a0_0) := (bC_ BK103.out 0).trans rfl; have hcz14_1 : w13.cell? ⟨gb103, 1, none⟩ = some (.int .i64 a0_1) := (bC_ BK103.out 1).trans rfl; have hcz14_2 : w13.cell? ⟨gb103, 2, none⟩ = some (.int .i64 a0_2) := (bC_ BK103.out 2).trans rfl; have hcz14_3 : w13.cell? ⟨gb103, 3, none⟩ = some (.int .i64 a0_3) := (bC_ BK103.out 3).trans rfl; have hcz14_4 : w13.cell? ⟨gb103, 4, none⟩ = some (.int .i64 a0_4) := (bC_ BK103.out 4).trans rfl; have hcz14_5 : w13.cell? ⟨gb103, 5, none⟩ = some (.int .i64 a0_5) := (bC_ BK103.out 5).trans rfl; have hcz14_6 : w13.cell? ⟨gb103, 6, none⟩ = some (.bool a0_6) := (bC_ BK103.out 6).trans rfl; have hcz14_7 : w13.cell? ⟨gb103, 7, none⟩ = some (.int .i64 a0_7) := (bC_ BK103.out 7).trans rfl; have hfz14_0 := bF_ BK103.out 0; have hfz14_1 := bF_ BK103.out 1; have hfz14_2 := bF_ BK103.out 2; have hfz14_3 := bF_ BK103.out 3; have hfz14_4 := bF_ BK103.out 4; have hfz14_5 := bF_ BK103.out 5; have hfz14_6 := bF_ BK103.out 6; have hfz14_7 := bF_ BK103.out 7))
      have n0_ := Aside0.mk (bD_ BK103.out)
      have n1_ := Aside0.mk (bY_ HB.out)
      clear BK103
      clear HB
      have BK103 := n0_
      have HB := n1_
      clear n0_ n1_
      refine start_ (n := 16) (S := fun w' => w'.cell? ⟨gb103, 0, none⟩ = some (.int .u8 a0_0) ∧ w'.cell? ⟨gb103, 1, none⟩ = some (.int .i64 a0_1) ∧ w'.cell? ⟨gb103, 2, none⟩ = some (.int .i64 a0_2) ∧ w'.cell? ⟨gb103, 3, none⟩ = some (.int .i64 a0_3) ∧ w'.cell? ⟨gb103, 4, none⟩ = some (.int .i64 a0_4) ∧ w'.cell? ⟨gb103, 5, none⟩ = some (.int .i64 a0_5) ∧ w'.cell? ⟨gb103, 6, none⟩ = some (.bool a0_6) ∧ w'.cell? ⟨gb103, 7, none⟩ = some (.int .i64 a0_7)) (ds := []) #[false, false, false, false, false, false, false, false, false, false, false, false, false, false, false, false] (by kernel_rfl) rfl rfl ⟨(bC_ BK103.out 0).trans rfl, (bC_ BK103.out 1).trans rfl, (bC_ BK103.out 2).trans rfl, (bC_ BK103.out 3).trans rfl, (bC_ BK103.out 4).trans rfl, (bC_ BK103.out 5).trans rfl, (bC_ BK103.out 6).trans rfl, (bC_ BK103.out 7).trans rfl⟩ (fun hHeld => ?_); refine with_tabW operand_Right.tab2 operand_Right.bits2 (fun HT_ HW_ => ?_)
      generalize w13.drew = w15 at BK103 HB hHeld ⊢
      refine pure_ (i := 0) (N := some 7) (v := ?_) (a' := ?_) #[true, false, false, false, false, false, false, false, false, false, false, false, false, false, false, false] rfl rfl (any_of HT_.out (by kernel_rfl)) (fun _ _ _ h => h) (Or.inl ⟨by rfl, ?_⟩) ?_ ?_
      rotate_left
      · intro w'
        go_simp
        with_reducible rfl
      rotate_left
      · simp only [Act.put, List.setIfInBounds_toArray, List.set_cons_zero, List.set_cons_succ, i64_w, i32_w]
        rfl
      refine take_ (i := 1) (N := some 8) (v := ?_) (a' := ?_) #[true, true, false, false, false, false, false, false, false, false, false, false, false, false, false, false] rfl rfl (take_ofW HT_.out HW_.out (by kernel_rfl)) (fun _ _ _ h => h) (Or.inl ⟨by rfl, ?_⟩) hHeld ?_ ?_
      rotate_left
      · rintro w' ⟨s0, s1, s2, s3, s4, s5, s6, s7⟩
        go_simp
        with_reducible rfl
      rotate_left
      · simp only [Act.put, List.setIfInBounds_toArray, List.set_cons_zero, List.set_cons_succ, i64_w, i32_w]
        rfl
      refine pure_ (i := 2) (N := some 9) (v := ?_) (a' := ?_) #[true, true, true, false, false, false, false, false, false, false, false, false, false, false, false, false] rfl rfl (any_of HT_.out (by kernel_rfl)) (fun _ _ _ h => h) (Or.inl ⟨by rfl, ?_⟩) ?_ ?_
      rotate_left
      · intro w'
        go_simp
        with_reducible rfl
      rotate_left
      · simp only [Act.put, List.setIfInBounds_toArray, List.set_cons_zero, List.set_cons_succ, i64_w, i32_w]
        rfl
      refine pure_ (i := 3) (N := some 10) (v := ?_) (a' := ?_) #[true, true, true, true, false, false, false, false, false, false, false, false, false, false, false, false] rfl rfl (any_of HT_.out (by kernel_rfl)) (fun _ _ _ h => h) (Or.inl ⟨by rfl, ?_⟩) ?_ ?_
      rotate_left
      · intro w'
        go_simp
        with_reducible rfl
      rotate_left
      · simp only [Act.put, List.setIfInBounds_toArray, List.set_cons_zero, List.set_cons_succ, i64_w, i32_w]
        rfl
      refine pure_ (i := 4) (N := some 11) (v := undef) (a' := ?_) #[true, true, true, true, true, false, false, false, false, false, false, false, false, false, false, false] rfl rfl (any_of HT_.out (by kernel_rfl)) (fun _ _ _ h => h) (Or.inr ⟨by rfl, rfl⟩) ?_ ?_
      rotate_left
      · simp only [Act.put, List.setIfInBounds_toArray, List.set_cons_zero, List.set_cons_succ, i64_w, i32_w]
        rfl
      refine pure_ (i := 5) (N := some 12) (v := undef) (a' := ?_) #[true, true, true, true, true, true, false, false, false, false, false, false, false, false, false, false] rfl rfl (any_of HT_.out (by kernel_rfl)) (fun _ _ _ h => h) (Or.inr ⟨by rfl, rfl⟩) ?_ ?_
      rotate_left
      · simp only [Act.put, List.setIfInBounds_toArray, List.set_cons_zero, List.set_cons_succ, i64_w, i32_w]
        rfl
      refine pure_ (i := 6) (N := some 13) (v := undef) (a' := ?_) #[true, true, true, true, true, true, true, false, false, false, false, false, false, false, false, false] rfl rfl (any_of HT_.out (by kernel_rfl)) (fun _ _ _ h => h) (Or.inr ⟨by rfl, rfl⟩) ?_ ?_
      rotate_left
      · simp only [Act.put, List.setIfInBounds_toArray, List.set_cons_zero, List.set_cons_succ, i64_w, i32_w]
        rfl
      refine pure_ (i := 7) (N := some 14) (v := ?_) (a' := ?_) #[true, true, true, true, true, true, true, true, false, false, false, false, false, false, false, false] rfl rfl (any_of HT_.out (by kernel_rfl)) (fun _ _ _ h => h) (Or.inl ⟨by rfl, ?_⟩) ?_ ?_
      rotate_left
      · intro w'
        go_simp
        with_reducible rfl
      rotate_left
      · simp only [Act.put, List.setIfInBounds_toArray, List.set_cons_zero, List.set_cons_succ, i64_w, i32_w]
        rfl
      refine pure_ (i := 8) (N := some 15) (v := ?_) (a' := ?_) #[true, true, true, true, true, true, true, true, true, false, false, false, false, false, false, false] rfl rfl (any_of HT_.out (by kernel_rfl)) (fun _ _ _ h => h) (Or.inl ⟨by rfl, ?_⟩) ?_ ?_
      rotate_left
      · intro w'
        go_simp
        with_reducible rfl
      rotate_left
      · simp only [Act.put, List.setIfInBounds_toArray, List.set_cons_zero, List.set_cons_succ, i64_w, i32_w]
        rfl
      refine pure_ (i := 9) (N := some 16) (v := undef) (a' := ?_) #[true, true, true, true, true, true, true, true, true, true, false, false, false, false, false, false] rfl rfl (any_of HT_.out (by kernel_rfl)) (fun _ _ _ h => h) (Or.inr ⟨by rfl, rfl⟩) ?_ ?_
      rotate_left
      · simp only [Act.put, List.setIfInBounds_toArray, List.set_cons_zero, List.set_cons_succ, i64_w, i32_w]
        rfl
      refine pure_ (i := 10) (N := some 17) (v := undef) (a' := ?_) #[true, true, true, true, true, true, true, true, true, true, true, false, false, false, false, false] rfl rfl (any_of HT_.out (by kernel_rfl)) (fun _ _ _ h => h) (Or.inr ⟨by rfl, rfl⟩) ?_ ?_
      rotate_left
      · simp only [Act.put, List.setIfInBounds_toArray, List.set_cons_zero, List.set_cons_succ, i64_w, i32_w]
        rfl
      refine pure_ (i := 11) (N := some 18) (v := undef) (a' := ?_) #[true, true, true, true, true, true, true, true, true, true, true, true, false, false, false, false] rfl rfl (any_of HT_.out (by kernel_rfl)) (fun _ _ _ h => h) (Or.inr ⟨by rfl, rfl⟩) ?_ ?_
      rotate_left
      · simp only [Act.put, List.setIfInBounds_toArray, List.set_cons_zero, List.set_cons_succ, i64_w, i32_w]
        rfl
      refine pure_ (i := 12) (N := some 19) (v := undef) (a' := ?_) #[true, true, true, true, true, true, true, true, true, true, true, true, true, false, false, false] rfl rfl (any_of HT_.out (by kernel_rfl)) (fun _ _ _ h => h) (Or.inr ⟨by rfl, rfl⟩) ?_ ?_
      rotate_left
      · simp only [Act.put, List.setIfInBounds_toArray, List.set_cons_zero, List.set_cons_succ, i64_w, i32_w]
        rfl
      refine pure_ (i := 13) (N := some 20) (v := undef) (a' := ?_) #[true, true, true, true, true, true, true, true, true, true, true, true, true, true, false, false] rfl rfl (any_of HT_.out (by kernel_rfl)) (fun _ _ _ h => h) (Or.inr ⟨by rfl, rfl⟩) ?_ ?_
      rotate_left
      · simp only [Act.put, List.setIfInBounds_toArray, List.set_cons_zero, List.set_cons_succ, i64_w, i32_w]
        rfl
      refine pure_ (i := 14) (N := some 21) (v := ?_) (a' := ?_) #[true, true, true, true, true, true, true, true, true, true, true, true, true, true, true, false] rfl rfl (any_of HT_.out (by kernel_rfl)) (fun _ _ _ h => h) (Or.inl ⟨by rfl, ?_⟩) ?_ ?_
      rotate_left
      · intro w'
        go_simp
        with_reducible rfl
      rotate_left
      · simp only [Act.put, List.setIfInBounds_toArray, List.set_cons_zero, List.set_cons_succ, i64_w, i32_w]
        rfl
      refine pure_ (i := 15) (N := some 2) (v := ?_) (a' := ?_) #[true, true, true, true, true, true, true, true, true, true, true, true, true, true, true, true] rfl rfl (any_of HT_.out (by kernel_rfl)) (fun _ _ _ h => h) (Or.inl ⟨by rfl, ?_⟩) ?_ ?_
      rotate_left
      · intro w'
        go_simp
        with_reducible rfl
      rotate_left
      · simp only [Act.put, List.setIfInBounds_toArray, List.set_cons_zero, List.set_cons_succ, i64_w, i32_w]
        rfl
      refine done_ (done_of HT_.out (by kernel_rfl)) ?_
      try go_wp2
      go_ret
      exact ⟨by first | rfl | (simp [errW_none, errW_some] <;> rfl) | (simp [*, errW_none, errW_some] <;> rfl), by repeat (first | (with_reducible first | exact HB.out | apply bX_ | apply bW_ | apply bY_ | refine bS_ ?_ GE103.out) | exact HB.out)⟩
  · rw [if_neg c2] at H
    have c2b0 : (a0_0 == 1) = false := beq_eq_false_iff_ne.mpr c2
    have c2b1 : (a0_0 != 1) = true := bne_iff_ne.mpr c2
    have HC16 := Aside0.mk H
    clear H
    go_enter Tryd.func18, Tryd.ntmps18
    go_upto_region 3 with (first | ((with_reducible refine gate_dst (N := 1) rfl ?_); refine box_event ?hg (N := 1) ?hd (cs := #[.int .u8 a0_0, .int .i64 a0_1, .int .i64 a0_2, .int .i64 a0_3, .int .i64 a0_4, .int .i64 a0_5, .bool a0_6, .int .i64 a0_7]) (t := 36) ?hr ?_; (case hd => rfl); (case hg => rfl); (case hr => first | (go_simp; done) | (go_simp; rfl)); intro gb103 hg w17 hbox hb; have n0_ := Aside0.mk (below_step (by repeat (first | (with_reducible first | exact HB.out | apply bX_ | apply bW_ | apply bY_) | exact HB.out)) hb); have n1_ := Aside0.mk (hbox); have n2_ := Aside0.mk ((by rw [hg]; exact (below_size (by repeat (first | (with_reducible first | exact HB.out | apply bX_ | apply bW_ | apply bY_) | exact HB.out))) : w.heap.size ≤ gb103)); have n3_ := Aside0.mk ((by rw [hg]; exact (below_size (by repeat (first | (with_reducible first | exact HB.out | apply bX_ | apply bW_ | apply bY_) | exact HB.out))) : w.heap.size ≤ gb103)); clear HB; have HB := n0_; have BK103 := n1_; have GW103 := n2_; have GE103 := n3_; clear n0_ n1_ n2_ n3_; clear hb hbox hg; have hcz18_0 : w17.cell? ⟨gb103, 0, none⟩ = some (.int .u8 a0_0) := (bC_ BK103.out 0).trans rfl; have hcz18_1 : w17.cell? ⟨gb103, 1, none⟩ = some (.int .i64 a0_1) := (bC_ BK103.out 1).trans rfl; have hcz18_2 : w17.cell? ⟨gb103, 2, none⟩ = some (.int .i64 a0_2) := (bC_ BK103.out 2).trans rfl; have hcz18_3 : w17.cell? ⟨gb103, 3, none⟩ = some (.int .i64 a0_3) := (bC_ BK103.out 3).trans rfl; have hcz18_4 : w17.cell? ⟨gb103, 4, none⟩ = some (.int .i64 a0_4) := (bC_ BK103.out 4).trans rfl; have hcz18_5 : w17.cell? ⟨gb103, 5, none⟩ = some (.int .i64 a0_5) := (bC_ BK103.out 5).trans rfl; have hcz18_6 : w17.cell? ⟨gb103, 6, none⟩ = some (.bool a0_6) := (bC_ BK103.out 6).trans rfl; have hcz18_7 : w17.cell? ⟨gb103, 7, none⟩ = some (.int .i64 a0_7) := (bC_ BK103.out 7).trans rfl; have hfz18_0 := bF_ BK103.out 0; have hfz18_1 := bF_ BK103.out 1; have hfz18_2 := bF_ BK103.out 2; have hfz18_3 := bF_ BK103.out 3; have hfz18_4 := bF_ BK103.out 4; have hfz18_5 := bF_ BK103.out 5; have hfz18_6 := bF_ BK103.out 6; have hfz18_7 := bF_ BK103.out 7))
    (try simp only [Act.put, List.setIfInBounds_toArray, List.set_cons_zero, List.set_cons_succ])
    go_cut [22] (fun v22 wc => ∃ (kq : Nat) (x22_15 : Bool), v22 = .bool x22_15 ∧ Aside0 (operand_Right.j0 kq x22_15 a0_0 a0_1 a0_2 a0_3 a0_4 a0_5 a0_6 a0_7 = some r) ∧ Aside0 (kq ≤ k) ∧ Aside0 (wc.heap[gb103]? = some (.cells #[.int .u8 a0_0, .int .i64 a0_1, .int .i64 a0_2, .int .i64 a0_3, .int .i64 a0_4, .int .i64 a0_5, .bool a0_6, .int .i64 a0_7] 36 (0, 0))) ∧ Aside0 (Below w.heap.size w wc))
    case first =>
      have H := HC16.out
      clear HC16
      by_cases c19 : a0_0 = 2
      · rw [if_pos c19] at H
        have c19b0 : (a0_0 == 2) = true := beq_iff_eq.mpr c19
        have c19b1 : (a0_0 != 2) = false := bne_eq_false_iff_eq.mpr c19
        clear c19
        (first | rw [c19b0] | (simp only [i64_w, i32_w]; rw [c19b0]) | skip)
        by_cases c20 : a0_1 = 0
        · rw [if_pos c20] at H
          have c20b0 : (a0_1 == 0) = true := beq_iff_eq.mpr c20
          have c20b1 : (a0_1 != 0) = false := bne_eq_false_iff_eq.mpr c20
          clear c20
          by_cases c21 : a0_7 = 0
          · rw [if_pos c21] at H
            have c21b0 : (a0_7 == 0) = true := beq_iff_eq.mpr c21
            have c21b1 : (a0_7 != 0) = false := bne_eq_false_iff_eq.mpr c21
            clear c21
            have H' := Aside0.mk H
            clear H
            have hcz22_0 : w17.cell? ⟨gb103, 0, none⟩ = some (.int .u8 a0_0) := (bC_ BK103.out 0).trans rfl
            have hcz22_1 : w17.cell? ⟨gb103, 1, none⟩ = some (.int .i64 a0_1) := (bC_ BK103.out 1).trans rfl
            have hcz22_2 : w17.cell? ⟨gb103, 2, none⟩ = some (.int .i64 a0_2) := (bC_ BK103.out 2).trans rfl
            have hcz22_3 : w17.cell? ⟨gb103, 3, none⟩ = some (.int .i64 a0_3) := (bC_ BK103.out 3).trans rfl
            have hcz22_4 : w17.cell? ⟨gb103, 4, none⟩ = some (.int .i64 a0_4) := (bC_ BK103.out 4).trans rfl
            have hcz22_5 : w17.cell? ⟨gb103, 5, none⟩ = some (.int .i64 a0_5) := (bC_ BK103.out 5).trans rfl
            have hcz22_6 : w17.cell? ⟨gb103, 6, none⟩ = some (.bool a0_6) := (bC_ BK103.out 6).trans rfl
            have hcz22_7 : w17.cell? ⟨gb103, 7, none⟩ = some (.int .i64 a0_7) := (bC_ BK103.out 7).trans rfl
            have hfz22_0 := bF_ BK103.out 0
            have hfz22_1 := bF_ BK103.out 1
            have hfz22_2 := bF_ BK103.out 2
            have hfz22_3 := bF_ BK103.out 3
            have hfz22_4 := bF_ BK103.out 4
            have hfz22_5 := bF_ BK103.out 5
            have hfz22_6 := bF_ BK103.out 6
            have hfz22_7 := bF_ BK103.out 7
            go_wp2
            go_meet
            case rel => exact ⟨_, (((wrap64 (wrap32 (a0_5))) != a0_5)), (by first | rfl | (simp; done) | (simp [*]; done)), H', ⟨by first | omega | exact Nat.le_refl _⟩, ⟨by (with_reducible repeat (first | refine bN_ ?_ _ | refine bD_ ?_ | refine bA_ ?_ _)); exact BK103.out⟩, ⟨by repeat (first | (with_reducible first | exact HB.out | apply bX_ | apply bW_ | apply bY_ | refine bS_ ?_ GE103.out) | exact HB.out)⟩⟩
          · rw [if_neg c21] at H
            have c21b0 : (a0_7 == 0) = false := beq_eq_false_iff_ne.mpr c21
            have c21b1 : (a0_7 != 0) = true := bne_iff_ne.mpr c21
            have H' := Aside0.mk H
            clear H
            have hcz23_0 : w17.cell? ⟨gb103, 0, none⟩ = some (.int .u8 a0_0) := (bC_ BK103.out 0).trans rfl
            have hcz23_1 : w17.cell? ⟨gb103, 1, none⟩ = some (.int .i64 a0_1) := (bC_ BK103.out 1).trans rfl
            have hcz23_2 : w17.cell? ⟨gb103, 2, none⟩ = some (.int .i64 a0_2) := (bC_ BK103.out 2).trans rfl
            have hcz23_3 : w17.cell? ⟨gb103, 3, none⟩ = some (.int .i64 a0_3) := (bC_ BK103.out 3).trans rfl
            have hcz23_4 : w17.cell? ⟨gb103, 4, none⟩ = some (.int .i64 a0_4) := (bC_ BK103.out 4).trans rfl
            have hcz23_5 : w17.cell? ⟨gb103, 5, none⟩ = some (.int .i64 a0_5) := (bC_ BK103.out 5).trans rfl
            have hcz23_6 : w17.cell? ⟨gb103, 6, none⟩ = some (.bool a0_6) := (bC_ BK103.out 6).trans rfl
            have hcz23_7 : w17.cell? ⟨gb103, 7, none⟩ = some (.int .i64 a0_7) := (bC_ BK103.out 7).trans rfl
            have hfz23_0 := bF_ BK103.out 0
            have hfz23_1 := bF_ BK103.out 1
            have hfz23_2 := bF_ BK103.out 2
            have hfz23_3 := bF_ BK103.out 3
            have hfz23_4 := bF_ BK103.out 4
            have hfz23_5 := bF_ BK103.out 5
            have hfz23_6 := bF_ BK103.out 6
            have hfz23_7 := bF_ BK103.out 7
            go_wp2
            go_meet
            case rel => exact ⟨_, (true), (by first | rfl | (simp; done) | (simp [*]; done)), H', ⟨by first | omega | exact Nat.le_refl _⟩, ⟨by (with_reducible repeat (first | refine bN_ ?_ _ | refine bD_ ?_ | refine bA_ ?_ _)); exact BK103.out⟩, ⟨by repeat (first | (with_reducible first | exact HB.out | apply bX_ | apply bW_ | apply bY_ | refine bS_ ?_ GE103.out) | exact HB.out)⟩⟩
        · rw [if_neg c20] at H
          have c20b0 : (a0_1 == 0) = false := beq_eq_false_iff_ne.mpr c20
          have c20b1 : (a0_1 != 0) = true := bne_iff_ne.mpr c20
          have H' := Aside0.mk H
          clear H
          have hcz24_0 : w17.cell? ⟨gb103, 0, none⟩ = some (.int .u8 a0_0) := (bC_ BK103.out 0).trans rfl
          have hcz24_1 : w17.cell? ⟨gb103, 1, none⟩ = some (.int .i64 a0_1) := (bC_ BK103.out 1).trans rfl
          have hcz24_2 : w17.cell? ⟨gb103, 2, none⟩ = some (.int .i64 a0_2) := (bC_ BK103.out 2).trans rfl
          have hcz24_3 : w17.cell? ⟨gb103, 3, none⟩ = some (.int .i64 a0_3) := (bC_ BK103.out 3).trans rfl
          have hcz24_4 : w17.cell? ⟨gb103, 4, none⟩ = some (.int .i64 a0_4) := (bC_ BK103.out 4).trans rfl
          have hcz24_5 : w17.cell? ⟨gb103, 5, none⟩ = some (.int .i64 a0_5) := (bC_ BK103.out 5).trans rfl
          have hcz24_6 : w17.cell? ⟨gb103, 6, none⟩ = some (.bool a0_6) := (bC_ BK103.out 6).trans rfl
          have hcz24_7 : w17.cell? ⟨gb103, 7, none⟩ = some (.int .i64 a0_7) := (bC_ BK103.out 7).trans rfl
          have hfz24_0 := bF_ BK103.out 0
          have hfz24_1 := bF_ BK103.out 1
          have hfz24_2 := bF_ BK103.out 2
          have hfz24_3 := bF_ BK103.out 3
          have hfz24_4 := bF_ BK103.out 4
          have hfz24_5 := bF_ BK103.out 5
          have hfz24_6 := bF_ BK103.out 6
          have hfz24_7 := bF_ BK103.out 7
          go_wp2
          go_meet
          case rel => exact ⟨_, (true), (by first | rfl | (simp; done) | (simp [*]; done)), H', ⟨by first | omega | exact Nat.le_refl _⟩, ⟨by (with_reducible repeat (first | refine bN_ ?_ _ | refine bD_ ?_ | refine bA_ ?_ _)); exact BK103.out⟩, ⟨by repeat (first | (with_reducible first | exact HB.out | apply bX_ | apply bW_ | apply bY_ | refine bS_ ?_ GE103.out) | exact HB.out)⟩⟩
      · rw [if_neg c19] at H
        have c19b0 : (a0_0 == 2) = false := beq_eq_false_iff_ne.mpr c19
        have c19b1 : (a0_0 != 2) = true := bne_iff_ne.mpr c19
        (first | rw [c19b0] | (simp only [i64_w, i32_w]; rw [c19b0]) | skip)
        have H' := Aside0.mk H
        clear H
        have hcz25_0 : w17.cell? ⟨gb103, 0, none⟩ = some (.int .u8 a0_0) := (bC_ BK103.out 0).trans rfl
        have hcz25_1 : w17.cell? ⟨gb103, 1, none⟩ = some (.int .i64 a0_1) := (bC_ BK103.out 1).trans rfl
        have hcz25_2 : w17.cell? ⟨gb103, 2, none⟩ = some (.int .i64 a0_2) := (bC_ BK103.out 2).trans rfl
        have hcz25_3 : w17.cell? ⟨gb103, 3, none⟩ = some (.int .i64 a0_3) := (bC_ BK103.out 3).trans rfl
        have hcz25_4 : w17.cell? ⟨gb103, 4, none⟩ = some (.int .i64 a0_4) := (bC_ BK103.out 4).trans rfl
        have hcz25_5 : w17.cell? ⟨gb103, 5, none⟩ = some (.int .i64 a0_5) := (bC_ BK103.out 5).trans rfl
        have hcz25_6 : w17.cell? ⟨gb103, 6, none⟩ = some (.bool a0_6) := (bC_ BK103.out 6).trans rfl
        have hcz25_7 : w17.cell? ⟨gb103, 7, none⟩ = some (.int .i64 a0_7) := (bC_ BK103.out 7).trans rfl
        have hfz25_0 := bF_ BK103.out 0
        have hfz25_1 := bF_ BK103.out 1
        have hfz25_2 := bF_ BK103.out 2
        have hfz25_3 := bF_ BK103.out 3
        have hfz25_4 := bF_ BK103.out 4
        have hfz25_5 := bF_ BK103.out 5
        have hfz25_6 := bF_ BK103.out 6
        have hfz25_7 := bF_ BK103.out 7
        go_wp2
        go_meet
        case rel => exact ⟨_, (true), (by first | rfl | (simp; done) | (simp [*]; done)), H', ⟨by first | omega | exact Nat.le_refl _⟩, ⟨by (with_reducible repeat (first | refine bN_ ?_ _ | refine bD_ ?_ | refine bA_ ?_ _)); exact BK103.out⟩, ⟨by repeat (first | (with_reducible first | exact HB.out | apply bX_ | apply bW_ | apply bY_ | refine bS_ ?_ GE103.out) | exact HB.out)⟩⟩
    case rest =>
      clear HC16
      (try clear c1); (try clear c2); (try clear c2b0); (try clear c2b1); (try clear p2); (try clear c3); (try clear c3b0); (try clear p3); (try clear c4); (try clear c4b0); (try clear p6); (try clear c18); (try clear c19); (try clear c19b0); (try clear c19b1); (try clear c20); (try clear c20b0); (try clear c20b1); (try clear c21); (try clear c21b0); (try clear c21b1); (try clear hcz11_0); (try clear hcz11_1); (try clear hcz11_2); (try clear hcz11_3); (try clear hcz11_4); (try clear hcz11_5); (try clear hcz11_6); (try clear hcz11_7); (try clear hcz14_0); (try clear hcz14_1); (try clear hcz14_2); (try clear hcz14_3); (try clear hcz14_4); (try clear hcz14_5); (try clear hcz14_6); (try clear hcz14_7); (try clear hcz18_0); (try clear hcz18_1); (try clear hcz18_2); (try clear hcz18_3); (try clear hcz18_4); (try clear hcz18_5); (try clear hcz18_6); (try clear hcz18_7); (try clear hcz22_0); (try clear hcz22_1); (try clear hcz22_2); (try clear hcz22_3); (try clear hcz22_4); (try clear hcz22_5); (try clear hcz22_6); (try clear hcz22_7); (try clear hcz23_0); (try clear hcz23_1); (try clear hcz23_2); (try clear hcz23_3); (try clear hcz23_4); (try clear hcz23_5); (try clear hcz23_6); (try clear hcz23_7); (try clear hcz24_0); (try clear hcz24_1); (try clear hcz24_2); (try clear hcz24_3); (try clear hcz24_4); (try clear hcz24_5); (try clear hcz24_6); (try clear hcz24_7); (try clear hcz25_0); (try clear hcz25_1); (try clear hcz25_2); (try clear hcz25_3); (try clear hcz25_4); (try clear hcz25_5); (try clear hcz25_6); (try clear hcz25_7); (try clear hcz7_0); (try clear hcz7_1); (try clear hcz7_2); (try clear hcz7_3); (try clear hcz7_4); (try clear hcz7_5); (try clear hcz7_6); (try clear hcz7_7); (try clear hfz11_0); (try clear hfz11_1); (try clear hfz11_2); (try clear hfz11_3); (try clear hfz11_4); (try clear hfz11_5); (try clear hfz11_6); (try clear hfz11_7); (try clear hfz14_0); (try clear hfz14_1); (try clear hfz14_2); (try clear hfz14_3); (try clear hfz14_4); (try clear hfz14_5)
      (try clear hfz14_6); (try clear hfz14_7); (try clear hfz18_0); (try clear hfz18_1); (try clear hfz18_2); (try clear hfz18_3); (try clear hfz18_4); (try clear hfz18_5); (try clear hfz18_6); (try clear hfz18_7); (try clear hfz22_0); (try clear hfz22_1); (try clear hfz22_2); (try clear hfz22_3); (try clear hfz22_4); (try clear hfz22_5); (try clear hfz22_6); (try clear hfz22_7); (try clear hfz23_0); (try clear hfz23_1); (try clear hfz23_2); (try clear hfz23_3); (try clear hfz23_4); (try clear hfz23_5); (try clear hfz23_6); (try clear hfz23_7); (try clear hfz24_0); (try clear hfz24_1); (try clear hfz24_2); (try clear hfz24_3); (try clear hfz24_4); (try clear hfz24_5); (try clear hfz24_6); (try clear hfz24_7); (try clear hfz25_0); (try clear hfz25_1); (try clear hfz25_2); (try clear hfz25_3); (try clear hfz25_4); (try clear hfz25_5); (try clear hfz25_6); (try clear hfz25_7); (try clear hfz7_0); (try clear hfz7_1); (try clear hfz7_2); (try clear hfz7_3); (try clear hfz7_4); (try clear hfz7_5); (try clear hfz7_6); (try clear hfz7_7)
      obtain ⟨kq, x22_15, rfl, HA, HJ15, BK103, HB⟩ := hcut
      cases kq with
      | zero => exact absurd HA.out (by simp [operand_Right.j0])
      | succ kj15 =>
        have H := HA.out
        clear HA
        simp only [operand_Right.j0] at H
        by_cases c26 : x22_15 = true
        · subst c26
          have H1 : (some false) = some r := by rw [if_pos rfl] at H; exact H
          clear H
          have H := H1
          clear H1
          obtain rfl := Option.some.inj H
          go_wp2
          go_ret
          exact ⟨by first | rfl | (simp [errW_none, errW_some] <;> rfl) | (simp [*, errW_none, errW_some] <;> rfl), by repeat (first | (with_reducible first | exact HB.out | apply bX_ | apply bW_ | apply bY_ | refine bS_ ?_ GE103.out) | exact HB.out)⟩
        · replace c26 := Bool.eq_false_iff.mpr c26
          subst c26
          have H1 : (if a0_6 = true then (if a0_2 = (-1) then (if a0_3 = (-1) then (some (a0_4 == 1)) else (some false)) else (some false)) else (if a0_2 ≥ (-1) then (if a0_2 < 16 then (if a0_3 ≥ (-1) then (if a0_3 < 16 then (if a0_3 = 4 then (some false) else ((operand_scaled.f a0_0 a0_1 a0_2 a0_3 a0_4 a0_5 a0_6 a0_7).bind fun t112 => (some t112))) else (some false)) else (some false)) else (some false)) else (some false))) = some r := by rw [if_neg (show ¬ (false = true) by decide)] at H; exact H
          clear H
          have H := H1
          clear H1
          by_cases c27 : a0_6 = true
          · subst c27
            have H1 : (if a0_2 = (-1) then (if a0_3 = (-1) then (some (a0_4 == 1)) else (some false)) else (some false)) = some r := by rw [if_pos rfl] at H; exact H
            clear H
            have H := H1
            clear H1
            by_cases c28 : a0_2 = (-1)
            · rw [if_pos c28] at H
              have c28b0 : (a0_2 == (-1)) = true := beq_iff_eq.mpr c28
              have c28b1 : (a0_2 != (-1)) = false := bne_eq_false_iff_eq.mpr c28
              clear c28
              by_cases c29 : a0_3 = (-1)
              · rw [if_pos c29] at H
                have c29b0 : (a0_3 == (-1)) = true := beq_iff_eq.mpr c29
                have c29b1 : (a0_3 != (-1)) = false := bne_eq_false_iff_eq.mpr c29
                clear c29
                obtain rfl := Option.some.inj H
                have hcz30_0 : wc.cell? ⟨gb103, 0, none⟩ = some (.int .u8 a0_0) := (bC_ BK103.out 0).trans rfl
                have hcz30_1 : wc.cell? ⟨gb103, 1, none⟩ = some (.int .i64 a0_1) := (bC_ BK103.out 1).trans rfl
                have hcz30_2 : wc.cell? ⟨gb103, 2, none⟩ = some (.int .i64 a0_2) := (bC_ BK103.out 2).trans rfl
                have hcz30_3 : wc.cell? ⟨gb103, 3, none⟩ = some (.int .i64 a0_3) := (bC_ BK103.out 3).trans rfl
                have hcz30_4 : wc.cell? ⟨gb103, 4, none⟩ = some (.int .i64 a0_4) := (bC_ BK103.out 4).trans rfl
                have hcz30_5 : wc.cell? ⟨gb103, 5, none⟩ = some (.int .i64 a0_5) := (bC_ BK103.out 5).trans rfl
                have hcz30_6 : wc.cell? ⟨gb103, 6, none⟩ = some (.bool true) := (bC_ BK103.out 6).trans rfl
                have hcz30_7 : wc.cell? ⟨gb103, 7, none⟩ = some (.int .i64 a0_7) := (bC_ BK103.out 7).trans rfl
                have hfz30_0 := bF_ BK103.out 0
                have hfz30_1 := bF_ BK103.out 1
                have hfz30_2 := bF_ BK103.out 2
                have hfz30_3 := bF_ BK103.out 3
                have hfz30_4 := bF_ BK103.out 4
                have hfz30_5 := bF_ BK103.out 5
                have hfz30_6 := bF_ BK103.out 6
                have hfz30_7 := bF_ BK103.out 7
                go_wp2
                go_ret
                exact ⟨by first | rfl | (simp [errW_none, errW_some] <;> rfl) | (simp [*, errW_none, errW_some] <;> rfl), by repeat (first | (with_reducible first | exact HB.out | apply bX_ | apply bW_ | apply bY_ | refine bS_ ?_ GE103.out) | exact HB.out)⟩
              · rw [if_neg c29] at H
                have c29b0 : (a0_3 == (-1)) = false := beq_eq_false_iff_ne.mpr c29
                have c29b1 : (a0_3 != (-1)) = true := bne_iff_ne.mpr c29
                obtain rfl := Option.some.inj H
                have hcz31_0 : wc.cell? ⟨gb103, 0, none⟩ = some (.int .u8 a0_0) := (bC_ BK103.out 0).trans rfl
                have hcz31_1 : wc.cell? ⟨gb103, 1, none⟩ = some (.int .i64 a0_1) := (bC_ BK103.out 1).trans rfl
                have hcz31_2 : wc.cell? ⟨gb103, 2, none⟩ = some (.int .i64 a0_2) := (bC_ BK103.out 2).trans rfl
                have hcz31_3 : wc.cell? ⟨gb103, 3, none⟩ = some (.int .i64 a0_3) := (bC_ BK103.out 3).trans rfl
                have hcz31_4 : wc.cell? ⟨gb103, 4, none⟩ = some (.int .i64 a0_4) := (bC_ BK103.out 4).trans rfl
                have hcz31_5 : wc.cell? ⟨gb103, 5, none⟩ = some (.int .i64 a0_5) := (bC_ BK103.out 5).trans rfl
                have hcz31_6 : wc.cell? ⟨gb103, 6, none⟩ = some (.bool true) := (bC_ BK103.out 6).trans rfl
                have hcz31_7 : wc.cell? ⟨gb103, 7, none⟩ = some (.int .i64 a0_7) := (bC_ BK103.out 7).trans rfl
                have hfz31_0 := bF_ BK103.out 0
                have hfz31_1 := bF_ BK103.out 1
                have hfz31_2 := bF_ BK103.out 2
                have hfz31_3 := bF_ BK103.out 3
                have hfz31_4 := bF_ BK103.out 4
                have hfz31_5 := bF_ BK103.out 5
                have hfz31_6 := bF_ BK103.out 6
                have hfz31_7 := bF_ BK103.out 7
                go_wp2
                go_ret
                exact ⟨by first | rfl | (simp [errW_none, errW_some] <;> rfl) | (simp [*, errW_none, errW_some] <;> rfl), by repeat (first | (with_reducible first | exact HB.out | apply bX_ | apply bW_ | apply bY_ | refine bS_ ?_ GE103.out) | exact HB.out)⟩
            · rw [if_neg c28] at H
              have c28b0 : (a0_2 == (-1)) = false := beq_eq_false_iff_ne.mpr c28
              have c28b1 : (a0_2 != (-1)) = true := bne_iff_ne.mpr c28
              obtain rfl := Option.some.inj H
              have hcz32_0 : wc.cell? ⟨gb103, 0, none⟩ = some (.int .u8 a0_0) := (bC_ BK103.out 0).trans rfl
              have hcz32_1 : wc.cell? ⟨gb103, 1, none⟩ = some (.int .i64 a0_1) := (bC_ BK103.out 1).trans rfl
              have hcz32_2 : wc.cell? ⟨gb103, 2, none⟩ = some (.int .i64 a0_2) := (bC_ BK103.out 2).trans rfl
              have hcz32_3 : wc.cell? ⟨gb103, 3, none⟩ = some (.int .i64 a0_3) := (bC_ BK103.out 3).trans rfl
              have hcz32_4 : wc.cell? ⟨gb103, 4, none⟩ = some (.int .i64 a0_4) := (bC_ BK103.out 4).trans rfl
              have hcz32_5 : wc.cell? ⟨gb103, 5, none⟩ = some (.int .i64 a0_5) := (bC_ BK103.out 5).trans rfl
              have hcz32_6 : wc.cell? ⟨gb103, 6, none⟩ = some (.bool true) := (bC_ BK103.out 6).trans rfl
              have hcz32_7 : wc.cell? ⟨gb103, 7, none⟩ = some (.int .i64 a0_7) := (bC_ BK103.out 7).trans rfl
              have hfz32_0 := bF_ BK103.out 0
              have hfz32_1 := bF_ BK103.out 1
              have hfz32_2 := bF_ BK103.out 2
              have hfz32_3 := bF_ BK103.out 3
              have hfz32_4 := bF_ BK103.out 4
              have hfz32_5 := bF_ BK103.out 5
              have hfz32_6 := bF_ BK103.out 6
              have hfz32_7 := bF_ BK103.out 7
              go_wp2
              go_ret
              exact ⟨by first | rfl | (simp [errW_none, errW_some] <;> rfl) | (simp [*, errW_none, errW_some] <;> rfl), by repeat (first | (with_reducible first | exact HB.out | apply bX_ | apply bW_ | apply bY_ | refine bS_ ?_ GE103.out) | exact HB.out)⟩
          · replace c27 := Bool.eq_false_iff.mpr c27
            subst c27
            have H1 : (if a0_2 ≥ (-1) then (if a0_2 < 16 then (if a0_3 ≥ (-1) then (if a0_3 < 16 then (if a0_3 = 4 then (some false) else ((operand_scaled.f a0_0 a0_1 a0_2 a0_3 a0_4 a0_5 false a0_7).bind fun t112 => (some t112))) else (some false)) else (some false)) else (some false)) else (some false)) = some r := by rw [if_neg (show ¬ (false = true) by decide)] at H; exact H
            clear H
            have H := H1
            clear H1
            by_cases c33 : a0_2 ≥ (-1)
            · rw [if_pos c33] at H
              have c33b0 : decide ((-1) ≤ a0_2) = true := decide_eq_true c33
              clear c33
              by_cases c34 : a0_2 < 16
              · rw [if_pos c34] at H
                have c34b0 : decide (a0_2 < 16) = true := decide_eq_true c34
                clear c34
                by_cases c35 : a0_3 ≥ (-1)
                · rw [if_pos c35] at H
                  have c35b0 : decide ((-1) ≤ a0_3) = true := decide_eq_true c35
                  clear c35
                  by_cases c36 : a0_3 < 16
                  · rw [if_pos c36] at H
                    have c36b0 : decide (a0_3 < 16) = true := decide_eq_true c36
                    clear c36
                    by_cases c37 : a0_3 = 4
                    · rw [if_pos c37] at H
                      have c37b0 : (a0_3 == 4) = true := beq_iff_eq.mpr c37
                      have c37b1 : (a0_3 != 4) = false := bne_eq_false_iff_eq.mpr c37
                      clear c37
                      obtain rfl := Option.some.inj H
                      have hcz38_0 : wc.cell? ⟨gb103, 0, none⟩ = some (.int .u8 a0_0) := (bC_ BK103.out 0).trans rfl
                      have hcz38_1 : wc.cell? ⟨gb103, 1, none⟩ = some (.int .i64 a0_1) := (bC_ BK103.out 1).trans rfl
                      have hcz38_2 : wc.cell? ⟨gb103, 2, none⟩ = some (.int .i64 a0_2) := (bC_ BK103.out 2).trans rfl
                      have hcz38_3 : wc.cell? ⟨gb103, 3, none⟩ = some (.int .i64 a0_3) := (bC_ BK103.out 3).trans rfl
                      have hcz38_4 : wc.cell? ⟨gb103, 4, none⟩ = some (.int .i64 a0_4) := (bC_ BK103.out 4).trans rfl
                      have hcz38_5 : wc.cell? ⟨gb103, 5, none⟩ = some (.int .i64 a0_5) := (bC_ BK103.out 5).trans rfl
                      have hcz38_6 : wc.cell? ⟨gb103, 6, none⟩ = some (.bool false) := (bC_ BK103.out 6).trans rfl
                      have hcz38_7 : wc.cell? ⟨gb103, 7, none⟩ = some (.int .i64 a0_7) := (bC_ BK103.out 7).trans rfl
                      have hfz38_0 := bF_ BK103.out 0
                      have hfz38_1 := bF_ BK103.out 1
                      have hfz38_2 := bF_ BK103.out 2
                      have hfz38_3 := bF_ BK103.out 3
                      have hfz38_4 := bF_ BK103.out 4
                      have hfz38_5 := bF_ BK103.out 5
                      have hfz38_6 := bF_ BK103.out 6
                      have hfz38_7 := bF_ BK103.out 7
                      go_wp2
                      go_ret
                      exact ⟨by first | rfl | (simp [errW_none, errW_some] <;> rfl) | (simp [*, errW_none, errW_some] <;> rfl), by repeat (first | (with_reducible first | exact HB.out | apply bX_ | apply bW_ | apply bY_ | refine bS_ ?_ GE103.out) | exact HB.out)⟩
                    · rw [if_neg c37] at H
                      have c37b0 : (a0_3 == 4) = false := beq_eq_false_iff_ne.mpr c37
                      have c37b1 : (a0_3 != 4) = true := bne_iff_ne.mpr c37
                      replace H := Option.bind_eq_some_iff.mp H
                      obtain ⟨t112, A390, H⟩ := H
                      replace H : (some t112) = some r := H
                      have A39 := Aside0.mk A390
                      clear A390
                      obtain rfl := Option.some.inj H
                      have hcz40_0 : wc.cell? ⟨gb103, 0, none⟩ = some (.int .u8 a0_0) := (bC_ BK103.out 0).trans rfl
                      have hcz40_1 : wc.cell? ⟨gb103, 1, none⟩ = some (.int .i64 a0_1) := (bC_ BK103.out 1).trans rfl
                      have hcz40_2 : wc.cell? ⟨gb103, 2, none⟩ = some (.int .i64 a0_2) := (bC_ BK103.out 2).trans rfl
                      have hcz40_3 : wc.cell? ⟨gb103, 3, none⟩ = some (.int .i64 a0_3) := (bC_ BK103.out 3).trans rfl
                      have hcz40_4 : wc.cell? ⟨gb103, 4, none⟩ = some (.int .i64 a0_4) := (bC_ BK103.out 4).trans rfl
                      have hcz40_5 : wc.cell? ⟨gb103, 5, none⟩ = some (.int .i64 a0_5) := (bC_ BK103.out 5).trans rfl
                      have hcz40_6 : wc.cell? ⟨gb103, 6, none⟩ = some (.bool false) := (bC_ BK103.out 6).trans rfl
                      have hcz40_7 : wc.cell? ⟨gb103, 7, none⟩ = some (.int .i64 a0_7) := (bC_ BK103.out 7).trans rfl
                      have hfz40_0 := bF_ BK103.out 0
                      have hfz40_1 := bF_ BK103.out 1
                      have hfz40_2 := bF_ BK103.out 2
                      have hfz40_3 := bF_ BK103.out 3
                      have hfz40_4 := bF_ BK103.out 4
                      have hfz40_5 := bF_ BK103.out 5
                      have hfz40_6 := bF_ BK103.out 6
                      have hfz40_7 := bF_ BK103.out 7
                      go_wp2_with (first | (go_at_call 22; (with_reducible refine (operand_scaled.calls a0_0 a0_1 a0_2 a0_3 a0_4 a0_5 false a0_7 t112 _ A39.out).mono ?_); rintro e w41 ⟨rfl, hb⟩; have n0_ := Aside0.mk (blk_below (g := gb103) (o := .cells #[.int .u8 a0_0, .int .i64 a0_1, .int .i64 a0_2, .int .i64 a0_3, .int .i64 a0_4, .int .i64 a0_5, .bool false, .int .i64 a0_7] 36 (0, 0)) (by (with_reducible repeat (first | refine bN_ ?_ _ | refine bD_ ?_ | refine bA_ ?_ _)); exact BK103.out) hb); have n1_ := Aside0.mk (below_step (by repeat (first | (with_reducible first | exact HB.out | apply bX_ | apply bW_ | apply bY_ | refine bS_ ?_ GE103.out) | exact HB.out)) hb); clear BK103; clear HB; have BK103 := n0_; have HB := n1_; clear n0_ n1_; (try clear hb); (try clear hb2); (try clear hk); (try clear hi)))
                      go_ret
                      exact ⟨by first | rfl | (simp [errW_none, errW_some] <;> rfl) | (simp [*, errW_none, errW_some] <;> rfl), by repeat (first | (with_reducible first | exact HB.out | apply bX_ | apply bW_ | apply bY_ | refine bS_ ?_ GE103.out) | exact HB.out)⟩
                  · rw [if_neg c36] at H
                    have c36b0 : decide (a0_3 < 16) = false := decide_eq_false c36
                    clear c36
                    obtain rfl := Option.some.inj H
                    have hcz42_0 : wc.cell? ⟨gb103, 0, none⟩ = some (.int .u8 a0_0) := (bC_ BK103.out 0).trans rfl
                    have hcz42_1 : wc.cell? ⟨gb103, 1, none⟩ = some (.int .i64 a0_1) := (bC_ BK103.out 1).trans rfl
                    have hcz42_2 : wc.cell? ⟨gb103, 2, none⟩ = some (.int .i64 a0_2) := (bC_ BK103.out 2).trans rfl
                    have hcz42_3 : wc.cell? ⟨gb103, 3, none⟩ = some (.int .i64 a0_3) := (bC_ BK103.out 3).trans rfl
                    have hcz42_4 : wc.cell? ⟨gb103, 4, none⟩ = some (.int .i64 a0_4) := (bC_ BK103.out 4).trans rfl
                    have hcz42_5 : wc.cell? ⟨gb103, 5, none⟩ = some (.int .i64 a0_5) := (bC_ BK103.out 5).trans rfl
                    have hcz42_6 : wc.cell? ⟨gb103, 6, none⟩ = some (.bool false) := (bC_ BK103.out 6).trans rfl
                    have hcz42_7 : wc.cell? ⟨gb103, 7, none⟩ = some (.int .i64 a0_7) := (bC_ BK103.out 7).trans rfl
                    have hfz42_0 := bF_ BK103.out 0
                    have hfz42_1 := bF_ BK103.out 1
                    have hfz42_2 := bF_ BK103.out 2
                    have hfz42_3 := bF_ BK103.out 3
                    have hfz42_4 := bF_ BK103.out 4
                    have hfz42_5 := bF_ BK103.out 5
                    have hfz42_6 := bF_ BK103.out 6
                    have hfz42_7 := bF_ BK103.out 7
                    go_wp2
                    go_ret
                    exact ⟨by first | rfl | (simp [errW_none, errW_some] <;> rfl) | (simp [*, errW_none, errW_some] <;> rfl), by repeat (first | (with_reducible first | exact HB.out | apply bX_ | apply bW_ | apply bY_ | refine bS_ ?_ GE103.out) | exact HB.out)⟩
                · rw [if_neg c35] at H
                  have c35b0 : decide ((-1) ≤ a0_3) = false := decide_eq_false c35
                  clear c35
                  obtain rfl := Option.some.inj H
                  have hcz43_0 : wc.cell? ⟨gb103, 0, none⟩ = some (.int .u8 a0_0) := (bC_ BK103.out 0).trans rfl
                  have hcz43_1 : wc.cell? ⟨gb103, 1, none⟩ = some (.int .i64 a0_1) := (bC_ BK103.out 1).trans rfl
                  have hcz43_2 : wc.cell? ⟨gb103, 2, none⟩ = some (.int .i64 a0_2) := (bC_ BK103.out 2).trans rfl
                  have hcz43_3 : wc.cell? ⟨gb103, 3, none⟩ = some (.int .i64 a0_3) := (bC_ BK103.out 3).trans rfl
                  have hcz43_4 : wc.cell? ⟨gb103, 4, none⟩ = some (.int .i64 a0_4) := (bC_ BK103.out 4).trans rfl
                  have hcz43_5 : wc.cell? ⟨gb103, 5, none⟩ = some (.int .i64 a0_5) := (bC_ BK103.out 5).trans rfl
                  have hcz43_6 : wc.cell? ⟨gb103, 6, none⟩ = some (.bool false) := (bC_ BK103.out 6).trans rfl
                  have hcz43_7 : wc.cell? ⟨gb103, 7, none⟩ = some (.int .i64 a0_7) := (bC_ BK103.out 7).trans rfl
                  have hfz43_0 := bF_ BK103.out 0
                  have hfz43_1 := bF_ BK103.out 1
                  have hfz43_2 := bF_ BK103.out 2
                  have hfz43_3 := bF_ BK103.out 3
                  have hfz43_4 := bF_ BK103.out 4
                  have hfz43_5 := bF_ BK103.out 5
                  have hfz43_6 := bF_ BK103.out 6
                  have hfz43_7 := bF_ BK103.out 7
                  go_wp2
                  go_ret
                  exact ⟨by first | rfl | (simp [errW_none, errW_some] <;> rfl) | (simp [*, errW_none, errW_some] <;> rfl), by repeat (first | (with_reducible first | exact HB.out | apply bX_ | apply bW_ | apply bY_ | refine bS_ ?_ GE103.out) | exact HB.out)⟩
              · rw [if_neg c34] at H
                have c34b0 : decide (a0_2 < 16) = false := decide_eq_false c34
                clear c34
                obtain rfl := Option.some.inj H
                have hcz44_0 : wc.cell? ⟨gb103, 0, none⟩ = some (.int .u8 a0_0) := (bC_ BK103.out 0).trans rfl
                have hcz44_1 : wc.cell? ⟨gb103, 1, none⟩ = some (.int .i64 a0_1) := (bC_ BK103.out 1).trans rfl
                have hcz44_2 : wc.cell? ⟨gb103, 2, none⟩ = some (.int .i64 a0_2) := (bC_ BK103.out 2).trans rfl
                have hcz44_3 : wc.cell? ⟨gb103, 3, none⟩ = some (.int .i64 a0_3) := (bC_ BK103.out 3).trans rfl
                have hcz44_4 : wc.cell? ⟨gb103, 4, none⟩ = some (.int .i64 a0_4) := (bC_ BK103.out 4).trans rfl
                have hcz44_5 : wc.cell? ⟨gb103, 5, none⟩ = some (.int .i64 a0_5) := (bC_ BK103.out 5).trans rfl
                have hcz44_6 : wc.cell? ⟨gb103, 6, none⟩ = some (.bool false) := (bC_ BK103.out 6).trans rfl
                have hcz44_7 : wc.cell? ⟨gb103, 7, none⟩ = some (.int .i64 a0_7) := (bC_ BK103.out 7).trans rfl
                have hfz44_0 := bF_ BK103.out 0
                have hfz44_1 := bF_ BK103.out 1
                have hfz44_2 := bF_ BK103.out 2
                have hfz44_3 := bF_ BK103.out 3
                have hfz44_4 := bF_ BK103.out 4
                have hfz44_5 := bF_ BK103.out 5
                have hfz44_6 := bF_ BK103.out 6
                have hfz44_7 := bF_ BK103.out 7
                go_wp2
                go_ret
                exact ⟨by first | rfl | (simp [errW_none, errW_some] <;> rfl) | (simp [*, errW_none, errW_some] <;> rfl), by repeat (first | (with_reducible first | exact HB.out | apply bX_ | apply bW_ | apply bY_ | refine bS_ ?_ GE103.out) | exact HB.out)⟩
            · rw [if_neg c33] at H
              have c33b0 : decide ((-1) ≤ a0_2) = false := decide_eq_false c33
              clear c33
              obtain rfl := Option.some.inj H
              have hcz45_0 : wc.cell? ⟨gb103, 0, none⟩ = some (.int .u8 a0_0) := (bC_ BK103.out 0).trans rfl
              have hcz45_1 : wc.cell? ⟨gb103, 1, none⟩ = some (.int .i64 a0_1) := (bC_ BK103.out 1).trans rfl
              have hcz45_2 : wc.cell? ⟨gb103, 2, none⟩ = some (.int .i64 a0_2) := (bC_ BK103.out 2).trans rfl
              have hcz45_3 : wc.cell? ⟨gb103, 3, none⟩ = some (.int .i64 a0_3) := (bC_ BK103.out 3).trans rfl
              have hcz45_4 : wc.cell? ⟨gb103, 4, none⟩ = some (.int .i64 a0_4) := (bC_ BK103.out 4).trans rfl
              have hcz45_5 : wc.cell? ⟨gb103, 5, none⟩ = some (.int .i64 a0_5) := (bC_ BK103.out 5).trans rfl
              have hcz45_6 : wc.cell? ⟨gb103, 6, none⟩ = some (.bool false) := (bC_ BK103.out 6).trans rfl
              have hcz45_7 : wc.cell? ⟨gb103, 7, none⟩ = some (.int .i64 a0_7) := (bC_ BK103.out 7).trans rfl
              have hfz45_0 := bF_ BK103.out 0
              have hfz45_1 := bF_ BK103.out 1
              have hfz45_2 := bF_ BK103.out 2
              have hfz45_3 := bF_ BK103.out 3
              have hfz45_4 := bF_ BK103.out 4
              have hfz45_5 := bF_ BK103.out 5
              have hfz45_6 := bF_ BK103.out 6
              have hfz45_7 := bF_ BK103.out 7
              go_wp2
              go_ret
              exact ⟨by first | rfl | (simp [errW_none, errW_some] <;> rfl) | (simp [*, errW_none, errW_some] <;> rfl), by repeat (first | (with_reducible first | exact HB.out | apply bX_ | apply bW_ | apply bY_ | refine bS_ ?_ GE103.out) | exact HB.out)⟩
end Go.Proofs.YtpmclnlgipphmaaDoor.B
