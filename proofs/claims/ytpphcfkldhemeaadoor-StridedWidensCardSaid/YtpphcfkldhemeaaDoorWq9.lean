/- Words and walks that were printed. -/
import Derived.Test.YtpphcfkldhemeaaDoorWq3
import Derived.Test.YtpphcfkldhemeaaDoorWq5
import Derived.Test.YtpphcfkldhemeaaDoorWq6
namespace Go.Proofs.YtpphcfkldhemeaaDoor.B
open Go.RowKit Go.Proofs.YtpphcfkldhemeaaDoorW.PrintWords Go.Proofs.YtpphcfkldhemeaaDoorW.PrintLast Go.Proofs.YtpphcfkldhemeaaDoorW.PrintMore
attribute [local go_sem] max2_int min2_int max_two min_two max_three min_three max_four min_four   -- for this text's walks alone
set_option linter.unusedVariables false
set_option linter.unusedSimpArgs false
def sundialref22_In.f (a0_0 : Int) (a0_1 : Int) (a0_2 : Int) (a1_0 : Int) (a1_1 : Int) (a1_2 : Int) : Option (Bool) := (sundialref22_seen.f a0_0 a0_1 a0_2).bind fun bt171 => ((sundialref22_seen.f a1_0 a1_1 a1_2).bind fun bt174 => ((sundialref22_empty.f bt171.1 bt171.2.1 bt171.2.2).bind fun t177 => (if t177 = true then (some true) else ((sundialref22_Has.f bt174.1 bt174.2.1 bt174.2.2 bt171.2.1).bind fun t178 => (if t178 = true then ((sundialref22_Has.f bt174.1 bt174.2.1 bt174.2.2 bt171.2.2).bind fun t179 => (if t179 = true then (if bt171.1 = 0 then (some true) else ((sundialref22_Has.f bt174.1 bt174.2.1 bt174.2.2 (IntKind.u64.wrap (bt171.2.1 + bt171.1))).bind fun t180 => (if t180 = true then (if (mx bt174.1 1) = 0 then (none) else (some ((Int.tmod bt171.1 (mx bt174.1 1)) == 0))) else (some false)))) else (some false))) else (some false))))))
set_option maxHeartbeats 8000000 in
set_option maxRecDepth 100000 in
theorem sundialref22_In.calls (a0_0 : Int) (a0_1 : Int) (a0_2 : Int) (a1_0 : Int) (a1_1 : Int) (a1_2 : Int) (r : Bool) (w : World) (h : sundialref22_In.f a0_0 a0_1 a0_2 a1_0 a1_1 a1_2 = some r) :
    Calls Tryd.prog 20 #[.agg #[.int .u64 a0_0, .int .u64 a0_1, .int .u64 a0_2], .agg #[.int .u64 a1_0, .int .u64 a1_1, .int .u64 a1_2]] w fun e w' => e = .returned (.bool r) ∧ Below w.heap.size w w' := by
  have hu24 := Tryd.underlying24
  have HB := Aside0.mk (Below.refl w.heap.size w)
  have H : ((sundialref22_seen.f a0_0 a0_1 a0_2).bind fun bt171 => ((sundialref22_seen.f a1_0 a1_1 a1_2).bind fun bt174 => ((sundialref22_empty.f bt171.1 bt171.2.1 bt171.2.2).bind fun t177 => (if t177 = true then (some true) else ((sundialref22_Has.f bt174.1 bt174.2.1 bt174.2.2 bt171.2.1).bind fun t178 => (if t178 = true then ((sundialref22_Has.f bt174.1 bt174.2.1 bt174.2.2 bt171.2.2).bind fun t179 => (if t179 = true then (if bt171.1 = 0 then (some true) else ((sundialref22_Has.f bt174.1 bt174.2.1 bt174.2.2 (IntKind.u64.wrap (bt171.2.1 + bt171.1))).bind fun t180 => (if t180 = true then (if (mx bt174.1 1) = 0 then (none) else (some ((Int.tmod bt171.1 (mx bt174.1 1)) == 0))) else (some false)))) else (some false))) else (some false))))))) = some r := h
  clear h
  replace H := Option.bind_eq_some_iff.mp H
  obtain ⟨⟨t171, t172, t173⟩, A30, H⟩ := H
  replace H : ((sundialref22_seen.f a1_0 a1_1 a1_2).bind fun bt174 => ((sundialref22_empty.f t171 t172 t173).bind fun t177 => (if t177 = true then (some true) else ((sundialref22_Has.f bt174.1 bt174.2.1 bt174.2.2 t172).bind fun t178 => (if t178 = true then ((sundialref22_Has.f bt174.1 bt174.2.1 bt174.2.2 t173).bind fun t179 => (if t179 = true then (if t171 = 0 then (some true) else ((sundialref22_Has.f bt174.1 bt174.2.1 bt174.2.2 (IntKind.u64.wrap (t172 + t171))).bind fun t180 => (if t180 = true then (if (mx bt174.1 1) = 0 then (none) else (some ((Int.tmod t171 (mx bt174.1 1)) == 0))) else (some false)))) else (some false))) else (some false)))))) = some r := H
  have A3 := Aside0.mk A30
  clear A30
  replace H := Option.bind_eq_some_iff.mp H
  obtain ⟨⟨t174, t175, t176⟩, A40, H⟩ := H
  replace H : ((sundialref22_empty.f t171 t172 t173).bind fun t177 => (if t177 = true then (some true) else ((sundialref22_Has.f t174 t175 t176 t172).bind fun t178 => (if t178 = true then ((sundialref22_Has.f t174 t175 t176 t173).bind fun t179 => (if t179 = true then (if t171 = 0 then (some true) else ((sundialref22_Has.f t174 t175 t176 (IntKind.u64.wrap (t172 + t171))).bind fun t180 => (if t180 = true then (if (mx t174 1) = 0 then (none) else (some ((Int.tmod t171 (mx t174 1)) == 0))) else (some false)))) else (some false))) else (some false))))) = some r := H
  have A4 := Aside0.mk A40
  clear A40
  replace H := Option.bind_eq_some_iff.mp H
  obtain ⟨t177, A50, H⟩ := H
  replace H : (if t177 = true then (some true) else ((sundialref22_Has.f t174 t175 t176 t172).bind fun t178 => (if t178 = true then ((sundialref22_Has.f t174 t175 t176 t173).bind fun t179 => (if t179 = true then (if t171 = 0 then (some true) else ((sundialref22_Has.f t174 t175 t176 (IntKind.u64.wrap (t172 + t171))).bind fun t180 => (if t180 = true then (if (mx t174 1) = 0 then (none) else (some ((Int.tmod t171 (mx t174 1)) == 0))) else (some false)))) else (some false))) else (some false)))) = some r := H
  have A5 := Aside0.mk A50
  clear A50
  by_cases c6 : t177 = true
  · subst c6
    have H1 : (some true) = some r := by rw [if_pos rfl] at H; exact H
    clear H
    have H := H1
    clear H1
    obtain rfl := Option.some.inj H
    go_enter Tryd.func20, Tryd.ntmps20
    try go_wp2_with (first | ((with_reducible refine gate_dst (N := 2) rfl ?_); (try (refine gate_guard (by rfl) ?_; dsimp only)); refine box_event ?hg (N := 2) ?hd (cs := #[.int .u64 a0_0, .int .u64 a0_1, .int .u64 a0_2]) (t := 24) ?hr ?_; (case hd => rfl); (case hg => rfl); (case hr => first | (go_simp; done) | (go_simp; rfl)); intro gb169 hg w7 hbox hb; have n0_ := Aside0.mk (below_step (by repeat (first | (with_reducible first | exact HB.out | apply bX_ | apply bW_ | apply bY_) | exact HB.out)) hb); have n1_ := Aside0.mk (hbox); have n2_ := Aside0.mk ((by rw [hg]; exact (below_size (by repeat (first | (with_reducible first | exact HB.out | apply bX_ | apply bW_ | apply bY_) | exact HB.out))) : w.heap.size ≤ gb169)); have n3_ := Aside0.mk ((by rw [hg]; exact (below_size (by repeat (first | (with_reducible first | exact HB.out | apply bX_ | apply bW_ | apply bY_) | exact HB.out))) : w.heap.size ≤ gb169)); clear HB; have HB := n0_; have BK169 := n1_; have GW169 := n2_; have GE169 := n3_; clear n0_ n1_ n2_ n3_; clear hb hbox hg) | ((with_reducible refine gate_dst (N := 3) rfl ?_); (try (refine gate_guard (by rfl) ?_; dsimp only)); refine box_event ?hg (N := 3) ?hd (cs := #[.int .u64 a1_0, .int .u64 a1_1, .int .u64 a1_2]) (t := 24) ?hr ?_; (case hd => rfl); (case hg => rfl); (case hr => first | (go_simp; done) | (go_simp; rfl)); intro gb170 hg w8 hbox hb; have n0_ := Aside0.mk (blk_below (g := gb169) (o := .cells #[.int .u64 a0_0, .int .u64 a0_1, .int .u64 a0_2] 24 (0, 0)) (by (with_reducible repeat (first | refine bN_ ?_ _ | refine bD_ ?_ | refine bA_ ?_ _)); exact BK169.out) hb); have n1_ := Aside0.mk (below_step (by repeat (first | (with_reducible first | exact HB.out | apply bX_ | apply bW_ | apply bY_ | refine bS_ ?_ GE169.out) | exact HB.out)) hb); have n2_ := Aside0.mk (hbox); have n3_ := Aside0.mk ((by rw [hg]; exact (below_size (by repeat (first | (with_reducible first | exact HB.out | apply bX_ | apply bW_ | apply bY_ | refine bS_ ?_ GE169.out) | exact HB.out))) : w.heap.size ≤ gb170)); have n4_ := Aside0.mk ((by rw [hg]; exact (below_size (by repeat (first | (with_reducible first | exact HB.out | apply bX_ | apply bW_ | apply bY_ | refine bS_ ?_ GE169.out) | exact HB.out))) : w.heap.size ≤ gb170)); have n5_ := Aside0.mk ((by rw [hg]; exact Nat.ne_of_lt (blk_lt (g := gb169) (o := .cells #[.int .u64 a0_0, .int .u64 a0_1, .int .u64 a0_2] 24 (0, 0)) (by (with_reducible repeat (first | refine bN_ ?_ _ | refine bD_ ?_ | refine bA_ ?_ _)); exact BK169.out)) : gb169 ≠ gb170)); have n6_ := Aside0.mk ((by rw [hg]; exact Nat.ne_of_gt (blk_lt (g := gb169) (o := .cells #[.int .u64 a0_0, .int .u64 a0_1, .int .u64 a0_2] 24 (0, 0)) (by (with_reducible repeat (first | refine bN_ ?_ _ | refine bD_ ?_ | refine bA_ ?_ _)); exact BK169.out)) : gb170 ≠ gb169)); clear BK169; clear HB; have BK169 := n0_; have HB := n1_; have BK170 := n2_; have GW170 := n3_; have GE170 := n4_; have NB169_170 := n5_; have NB170_169 := n6_; clear n0_ n1_ n2_ n3_ n4_ n5_ n6_; clear hb hbox hg))
    have n0_ := Aside0.mk (bD_ BK169.out)
    have n1_ := Aside0.mk (bD_ BK170.out)
    have n2_ := Aside0.mk (bY_ HB.out)
    clear BK169
    clear BK170
    clear HB
    have BK169 := n0_
    have BK170 := n1_
    have HB := n2_
    clear n0_ n1_ n2_
    refine start_ (n := 6) (S := fun w' => w'.cell? ⟨gb169, 0, none⟩ = some (.int .u64 a0_0) ∧ w'.cell? ⟨gb169, 1, none⟩ = some (.int .u64 a0_1) ∧ w'.cell? ⟨gb169, 2, none⟩ = some (.int .u64 a0_2) ∧ w'.cell? ⟨gb170, 0, none⟩ = some (.int .u64 a1_0) ∧ w'.cell? ⟨gb170, 1, none⟩ = some (.int .u64 a1_1) ∧ w'.cell? ⟨gb170, 2, none⟩ = some (.int .u64 a1_2)) (ds := [4, 5]) #[false, false, false, false, false, false] (by kernel_rfl) rfl rfl ⟨(bC_ BK169.out 0).trans rfl, (bC_ BK169.out 1).trans rfl, (bC_ BK169.out 2).trans rfl, (bC_ BK170.out 0).trans rfl, (bC_ BK170.out 1).trans rfl, (bC_ BK170.out 2).trans rfl⟩ (fun hHeld => ?_)
    generalize w8.drew = w9 at BK169 BK170 HB hHeld ⊢
    refine take_ (i := 0) (N := some 5) (v := ?_) (a' := ?_) #[true, false, false, false, false, false] rfl rfl (by kernel_rfl) (fun _ _ _ h => h) (Or.inl ⟨by rfl, ?_⟩) hHeld ?_ ?_
    rotate_left
    · rintro w' ⟨s0, s1, s2, s3, s4, s5⟩
      go_simp
      with_reducible rfl
    rotate_left
    · simp only [Act.put, List.setIfInBounds_toArray, List.set_cons_zero, List.set_cons_succ, i64_w, i32_w]
      rfl
    refine take_ (i := 2) (N := some 7) (v := ?_) (a' := ?_) #[true, false, true, false, false, false] rfl rfl (by kernel_rfl) (fun _ _ _ h => h) (Or.inl ⟨by rfl, ?_⟩) hHeld ?_ ?_
    rotate_left
    · rintro w' ⟨s0, s1, s2, s3, s4, s5⟩
      go_simp
      with_reducible rfl
    rotate_left
    · simp only [Act.put, List.setIfInBounds_toArray, List.set_cons_zero, List.set_cons_succ, i64_w, i32_w]
      rfl
    refine one_ (i := 1) (N := some 6) #[true, true, true, false, false, false] rfl rfl (by kernel_rfl) (by decide) (fun K hK => ?_)
    refine goes_ Tryd.func21 (by kernel_rfl) rfl #[.agg #[.int .u64 a0_0, .int .u64 a0_1, .int .u64 a0_2]] (by rfl) rfl rfl (by (try simp only [List.map_toArray, List.map_cons, List.map_nil]); first | done | rfl | (simp only [List.length_drop, List.length_take]; rfl)) ?_
    with_reducible refine (sundialref22_seen.calls a0_0 a0_1 a0_2 t171 t172 t173 _ A3.out).mono ?_
    rintro e w10 ⟨rfl, hb⟩
    refine ⟨_, rfl, ?_⟩
    have n0_ := Aside0.mk (blk_below (g := gb169) (o := .cells #[.int .u64 a0_0, .int .u64 a0_1, .int .u64 a0_2] 24 (0, 0)) (by (with_reducible repeat (first | refine bN_ ?_ _ | refine bD_ ?_ | refine bA_ ?_ _)); exact BK169.out) hb)
    have n1_ := Aside0.mk (blk_below (g := gb170) (o := .cells #[.int .u64 a1_0, .int .u64 a1_1, .int .u64 a1_2] 24 (0, 0)) (by (with_reducible repeat (first | refine bN_ ?_ _ | refine bD_ ?_ | refine bA_ ?_ _)); exact BK170.out) hb)
    have n2_ := Aside0.mk (below_step (by repeat (first | (with_reducible first | exact HB.out | apply bX_ | apply bW_ | apply bY_ | refine bS_ ?_ GE169.out | refine bS_ ?_ GE170.out) | exact HB.out)) hb)
    clear BK169
    clear BK170
    clear HB
    have BK169 := n0_
    have BK170 := n1_
    have HB := n2_
    clear n0_ n1_ n2_
    (try clear hb)
    (try clear hb2)
    (try clear hk)
    (try clear hi)
    refine hK.out _ _ ⟨(bC_ BK169.out 0).trans rfl, (bC_ BK169.out 1).trans rfl, (bC_ BK169.out 2).trans rfl, (bC_ BK170.out 0).trans rfl, (bC_ BK170.out 1).trans rfl, (bC_ BK170.out 2).trans rfl⟩ (fun hHeld => ?_)
    clear hK K
    refine norm_ (a' := ?_) ?_ ?_
    rotate_left
    · show Act.put _ (some 6) _ = _
      simp only [Act.put, List.setIfInBounds_toArray, List.set_cons_zero, List.set_cons_succ, i64_w, i32_w]
      rfl
    refine one_ (i := 3) (N := some 8) #[true, true, true, true, false, false] rfl rfl (by kernel_rfl) (by decide) (fun K hK => ?_)
    refine goes_ Tryd.func21 (by kernel_rfl) rfl #[.agg #[.int .u64 a1_0, .int .u64 a1_1, .int .u64 a1_2]] (by rfl) rfl rfl (by (try simp only [List.map_toArray, List.map_cons, List.map_nil]); first | done | rfl | (simp only [List.length_drop, List.length_take]; rfl)) ?_
    with_reducible refine (sundialref22_seen.calls a1_0 a1_1 a1_2 t174 t175 t176 _ A4.out).mono ?_
    rintro e w11 ⟨rfl, hb⟩
    refine ⟨_, rfl, ?_⟩
    have n0_ := Aside0.mk (blk_below (g := gb169) (o := .cells #[.int .u64 a0_0, .int .u64 a0_1, .int .u64 a0_2] 24 (0, 0)) (by (with_reducible repeat (first | refine bN_ ?_ _ | refine bD_ ?_ | refine bA_ ?_ _)); exact BK169.out) hb)
    have n1_ := Aside0.mk (blk_below (g := gb170) (o := .cells #[.int .u64 a1_0, .int .u64 a1_1, .int .u64 a1_2] 24 (0, 0)) (by (with_reducible repeat (first | refine bN_ ?_ _ | refine bD_ ?_ | refine bA_ ?_ _)); exact BK170.out) hb)
    have n2_ := Aside0.mk (below_step (by repeat (first | (with_reducible first | exact HB.out | apply bX_ | apply bW_ | apply bY_ | refine bS_ ?_ GE169.out | refine bS_ ?_ GE170.out) | exact HB.out)) hb)
    clear BK169
    clear BK170
    clear HB
    have BK169 := n0_
    have BK170 := n1_
    have HB := n2_
    clear n0_ n1_ n2_
    (try clear hb)
    (try clear hb2)
    (try clear hk)
    (try clear hi)
    refine hK.out _ _ ⟨(bC_ BK169.out 0).trans rfl, (bC_ BK169.out 1).trans rfl, (bC_ BK169.out 2).trans rfl, (bC_ BK170.out 0).trans rfl, (bC_ BK170.out 1).trans rfl, (bC_ BK170.out 2).trans rfl⟩ (fun hHeld => ?_)
    clear hK K
    refine norm_ (a' := ?_) ?_ ?_
    rotate_left
    · show Act.put _ (some 8) _ = _
      simp only [Act.put, List.setIfInBounds_toArray, List.set_cons_zero, List.set_cons_succ, i64_w, i32_w]
      rfl
    refine last_ (i := 4) (N := none) #[true, true, true, true, true, false] rfl rfl (by kernel_rfl) (by decide) (fun K hK => ?_)
    have hs12 : w11.cell? ⟨gb169, 0, none⟩ = some (.int .u64 a0_0) := (bC_ BK169.out 0).trans rfl
    have hfs12 := bF_ BK169.out 0
    have hns12_1 := NB170_169.out
    have hms12_1 := NB169_170.out
    have hs13 : w11.cell? ⟨gb169, 1, none⟩ = some (.int .u64 a0_1) := (bC_ BK169.out 1).trans rfl
    have hfs13 := bF_ BK169.out 1
    have hns13_1 := NB170_169.out
    have hms13_1 := NB169_170.out
    have hs14 : w11.cell? ⟨gb169, 2, none⟩ = some (.int .u64 a0_2) := (bC_ BK169.out 2).trans rfl
    have hfs14 := bF_ BK169.out 2
    have hns14_1 := NB170_169.out
    have hms14_1 := NB169_170.out
    refine skip_ (w1 := ?_) (by rfl) rfl ?_ ?_
    rotate_left
    · go_simp
      rfl
    refine hK.out _ _ ?_
    clear hK K
    refine last_ (i := 5) (N := none) #[true, true, true, true, true, true] rfl rfl (by kernel_rfl) (by decide) (fun K hK => ?_)
    have hs15 : w11.cell? ⟨gb170, 0, none⟩ = some (.int .u64 a1_0) := (bC_ BK170.out 0).trans rfl
    have hfs15 := bF_ BK170.out 0
    have hns15_0 := NB169_170.out
    have hms15_0 := NB170_169.out
    have hs16 : w11.cell? ⟨gb170, 1, none⟩ = some (.int .u64 a1_1) := (bC_ BK170.out 1).trans rfl
    have hfs16 := bF_ BK170.out 1
    have hns16_0 := NB169_170.out
    have hms16_0 := NB170_169.out
    have hs17 : w11.cell? ⟨gb170, 2, none⟩ = some (.int .u64 a1_2) := (bC_ BK170.out 2).trans rfl
    have hfs17 := bF_ BK170.out 2
    have hns17_0 := NB169_170.out
    have hms17_0 := NB170_169.out
    refine skip_ (w1 := ?_) (by rfl) rfl ?_ ?_
    rotate_left
    · go_simp
      rfl
    refine hK.out _ _ ?_
    clear hK K
    refine done_ (by kernel_rfl) ?_
    have hnb18 := NB169_170.out
    have hnc18 := NB170_169.out
    have hcz19_0 : w11.cell? ⟨gb169, 0, none⟩ = some (.int .u64 a0_0) := (bC_ BK169.out 0).trans rfl
    have hcz19_1 : w11.cell? ⟨gb169, 1, none⟩ = some (.int .u64 a0_1) := (bC_ BK169.out 1).trans rfl
    have hcz19_2 : w11.cell? ⟨gb169, 2, none⟩ = some (.int .u64 a0_2) := (bC_ BK169.out 2).trans rfl
    have hfz19_0 := bF_ BK169.out 0
    have hfz19_1 := bF_ BK169.out 1
    have hfz19_2 := bF_ BK169.out 2
    try go_wp2_with (first | ((with_reducible refine gate_callee (f := 22) rfl ?_); refine goesL_ (some 10) rfl rfl Tryd.func22 (by kernel_rfl) rfl #[.agg #[.int .u64 t171, .int .u64 t172, .int .u64 t173]] rfl (by (try simp only [List.map_toArray, List.map_cons, List.map_nil]); first | done | rfl | (simp only [List.length_drop, List.length_take]; rfl)) ?_; (with_reducible refine (sundialref22_empty.calls t171 t172 t173 true _ A5.out).mono ?_); rintro e w20 ⟨rfl, hb⟩; refine ⟨_, rfl, ?_⟩; have n0_ := Aside0.mk (blk_below (g := gb169) (o := .cells #[.int .u64 t171, .int .u64 t172, .int .u64 t173] 24 (0, 0)) (by (with_reducible repeat (first | refine bN_ ?_ _ | refine bD_ ?_ | refine bA_ ?_ _)); refine blk_far ?_ NB169_170.out _; (with_reducible repeat (first | refine bN_ ?_ _ | refine bD_ ?_ | refine bA_ ?_ _)); refine blk_far ?_ NB169_170.out _; (with_reducible repeat (first | refine bN_ ?_ _ | refine bD_ ?_ | refine bA_ ?_ _)); refine blk_far ?_ NB169_170.out _; (with_reducible repeat (first | refine bN_ ?_ _ | refine bD_ ?_ | refine bA_ ?_ _)); refine blk_put (cs := #[.int .u64 t171, .int .u64 t172, .int .u64 a0_2]) ?_ 2 _ rfl; (with_reducible repeat (first | refine bN_ ?_ _ | refine bD_ ?_ | refine bA_ ?_ _)); refine blk_put (cs := #[.int .u64 t171, .int .u64 a0_1, .int .u64 a0_2]) ?_ 1 _ rfl; (with_reducible repeat (first | refine bN_ ?_ _ | refine bD_ ?_ | refine bA_ ?_ _)); refine blk_put (cs := #[.int .u64 a0_0, .int .u64 a0_1, .int .u64 a0_2]) ?_ 0 _ rfl; (with_reducible repeat (first | refine bN_ ?_ _ | refine bD_ ?_ | refine bA_ ?_ _)); exact BK169.out) hb); have n1_ := Aside0.mk (blk_below (g := gb170) (o := .cells #[.int .u64 t174, .int .u64 t175, .int .u64 t176] 24 (0, 0)) (by (with_reducible repeat (first | refine bN_ ?_ _ | refine bD_ ?_ | refine bA_ ?_ _)); refine blk_put (cs := #[.int .u64 t174, .int .u64 t175, .int .u64 a1_2]) ?_ 2 _ rfl; (with_reducible repeat (first | refine bN_ ?_ _ | refine bD_ ?_ | refine bA_ ?_ _)); refine blk_put (cs := #[.int .u64 t174, .int .u64 a1_1, .int .u64 a1_2]) ?_ 1 _ rfl; (with_reducible repeat (first | refine bN_ ?_ _ | refine bD_ ?_ | refine bA_ ?_ _)); refine blk_put (cs := #[.int .u64 a1_0, .int .u64 a1_1, .int .u64 a1_2]) ?_ 0 _ rfl; (with_reducible repeat (first | refine bN_ ?_ _ | refine bD_ ?_ | refine bA_ ?_ _)); refine blk_far ?_ NB170_169.out _; (with_reducible repeat (first | refine bN_ ?_ _ | refine bD_ ?_ | refine bA_ ?_ _)); refine blk_far ?_ NB170_169.out _; (with_reducible repeat (first | refine bN_ ?_ _ | refine bD_ ?_ | refine bA_ ?_ _)); refine blk_far ?_ NB170_169.out _; (with_reducible repeat (first | refine bN_ ?_ _ | refine bD_ ?_ | refine bA_ ?_ _)); exact BK170.out) hb); have n2_ := Aside0.mk (below_step (by repeat (first | (with_reducible first | exact HB.out | apply bX_ | apply bW_ | apply bY_ | refine bS_ ?_ GE169.out | refine bS_ ?_ GE170.out) | exact HB.out)) hb); clear BK169; clear BK170; clear HB; have BK169 := n0_; have BK170 := n1_; have HB := n2_; clear n0_ n1_ n2_; (try clear hb); (try clear hb2); (try clear hk); (try clear hi)))
    go_ret
    exact ⟨by first | rfl | (simp [errW_none, errW_some] <;> rfl) | (simp [*, errW_none, errW_some] <;> rfl), by repeat (first | (with_reducible first | exact HB.out | apply bX_ | apply bW_ | apply bY_ | refine bS_ ?_ GE169.out | refine bS_ ?_ GE170.out) | exact HB.out)⟩
  · replace c6 := Bool.eq_false_iff.mpr c6
    subst c6
    have H1 : ((sundialref22_Has.f t174 t175 t176 t172).bind fun t178 => (if t178 = true then ((sundialref22_Has.f t174 t175 t176 t173).bind fun t179 => (if t179 = true then (if t171 = 0 then (some true) else ((sundialref22_Has.f t174 t175 t176 (IntKind.u64.wrap (t172 + t171))).bind fun t180 => (if t180 = true then (if (mx t174 1) = 0 then (none) else (some ((Int.tmod t171 (mx t174 1)) == 0))) else (some false)))) else (some false))) else (some false))) = some r := by rw [if_neg (show ¬ (false = true) by decide)] at H; exact H
    clear H
    have H := H1
    clear H1
    replace H := Option.bind_eq_some_iff.mp H
    obtain ⟨t178, A210, H⟩ := H
    replace H : (if t178 = true then ((sundialref22_Has.f t174 t175 t176 t173).bind fun t179 => (if t179 = true then (if t171 = 0 then (some true) else ((sundialref22_Has.f t174 t175 t176 (IntKind.u64.wrap (t172 + t171))).bind fun t180 => (if t180 = true then (if (mx t174 1) = 0 then (none) else (some ((Int.tmod t171 (mx t174 1)) == 0))) else (some false)))) else (some false))) else (some false)) = some r := H
    have A21 := Aside0.mk A210
    clear A210
    by_cases c22 : t178 = true
    · subst c22
      have H1 : ((sundialref22_Has.f t174 t175 t176 t173).bind fun t179 => (if t179 = true then (if t171 = 0 then (some true) else ((sundialref22_Has.f t174 t175 t176 (IntKind.u64.wrap (t172 + t171))).bind fun t180 => (if t180 = true then (if (mx t174 1) = 0 then (none) else (some ((Int.tmod t171 (mx t174 1)) == 0))) else (some false)))) else (some false))) = some r := by rw [if_pos rfl] at H; exact H
      clear H
      have H := H1
      clear H1
      replace H := Option.bind_eq_some_iff.mp H
      obtain ⟨t179, A230, H⟩ := H
      replace H : (if t179 = true then (if t171 = 0 then (some true) else ((sundialref22_Has.f t174 t175 t176 (IntKind.u64.wrap (t172 + t171))).bind fun t180 => (if t180 = true then (if (mx t174 1) = 0 then (none) else (some ((Int.tmod t171 (mx t174 1)) == 0))) else (some false)))) else (some false)) = some r := H
      have A23 := Aside0.mk A230
      clear A230
      by_cases c24 : t179 = true
      · subst c24
        have H1 : (if t171 = 0 then (some true) else ((sundialref22_Has.f t174 t175 t176 (IntKind.u64.wrap (t172 + t171))).bind fun t180 => (if t180 = true then (if (mx t174 1) = 0 then (none) else (some ((Int.tmod t171 (mx t174 1)) == 0))) else (some false)))) = some r := by rw [if_pos rfl] at H; exact H
        clear H
        have H := H1
        clear H1
        by_cases c25 : t171 = 0
        · rw [if_pos c25] at H
          have c25b0 : (t171 == 0) = true := beq_iff_eq.mpr c25
          have c25b1 : (t171 != 0) = false := bne_eq_false_iff_eq.mpr c25
          clear c25
          obtain rfl := Option.some.inj H
          go_enter Tryd.func20, Tryd.ntmps20
          try go_wp2_with (first | ((with_reducible refine gate_dst (N := 2) rfl ?_); (try (refine gate_guard (by rfl) ?_; dsimp only)); refine box_event ?hg (N := 2) ?hd (cs := #[.int .u64 a0_0, .int .u64 a0_1, .int .u64 a0_2]) (t := 24) ?hr ?_; (case hd => rfl); (case hg => rfl); (case hr => first | (go_simp; done) | (go_simp; rfl)); intro gb169 hg w26 hbox hb; have n0_ := Aside0.mk (below_step (by repeat (first | (with_reducible first | exact HB.out | apply bX_ | apply bW_ | apply bY_) | exact HB.out)) hb); have n1_ := Aside0.mk (hbox); have n2_ := Aside0.mk ((by rw [hg]; exact (below_size (by repeat (first | (with_reducible first | exact HB.out | apply bX_ | apply bW_ | apply bY_) | exact HB.out))) : w.heap.size ≤ gb169)); have n3_ := Aside0.mk ((by rw [hg]; exact (below_size (by repeat (first | (with_reducible first | exact HB.out | apply bX_ | apply bW_ | apply bY_) | exact HB.out))) : w.heap.size ≤ gb169)); clear HB; have HB := n0_; have BK169 := n1_; have GW169 := n2_; have GE169 := n3_; clear n0_ n1_ n2_ n3_; clear hb hbox hg) | ((with_reducible refine gate_dst (N := 3) rfl ?_); (try (refine gate_guard (by rfl) ?_; dsimp only)); refine box_event ?hg (N := 3) ?hd (cs := #[.int .u64 a1_0, .int .u64 a1_1, .int .u64 a1_2]) (t := 24) ?hr ?_; (case hd => rfl); (case hg => rfl); (case hr => first | (go_simp; done) | (go_simp; rfl)); intro gb170 hg w27 hbox hb; have n0_ := Aside0.mk (blk_below (g := gb169) (o := .cells #[.int .u64 a0_0, .int .u64 a0_1, .int .u64 a0_2] 24 (0, 0)) (by (with_reducible repeat (first | refine bN_ ?_ _ | refine bD_ ?_ | refine bA_ ?_ _)); exact BK169.out) hb); have n1_ := Aside0.mk (below_step (by repeat (first | (with_reducible first | exact HB.out | apply bX_ | apply bW_ | apply bY_ | refine bS_ ?_ GE169.out) | exact HB.out)) hb); have n2_ := Aside0.mk (hbox); have n3_ := Aside0.mk ((by rw [hg]; exact (below_size (by repeat (first | (with_reducible first | exact HB.out | apply bX_ | apply bW_ | apply bY_ | refine bS_ ?_ GE169.out) | exact HB.out))) : w.heap.size ≤ gb170)); have n4_ := Aside0.mk ((by rw [hg]; exact (below_size (by repeat (first | (with_reducible first | exact HB.out | apply bX_ | apply bW_ | apply bY_ | refine bS_ ?_ GE169.out) | exact HB.out))) : w.heap.size ≤ gb170)); have n5_ := Aside0.mk ((by rw [hg]; exact Nat.ne_of_lt (blk_lt (g := gb169) (o := .cells #[.int .u64 a0_0, .int .u64 a0_1, .int .u64 a0_2] 24 (0, 0)) (by (with_reducible repeat (first | refine bN_ ?_ _ | refine bD_ ?_ | refine bA_ ?_ _)); exact BK169.out)) : gb169 ≠ gb170)); have n6_ := Aside0.mk ((by rw [hg]; exact Nat.ne_of_gt (blk_lt (g := gb169) (o := .cells #[.int .u64 a0_0, .int .u64 a0_1, .int .u64 a0_2] 24 (0, 0)) (by (with_reducible repeat (first | refine bN_ ?_ _ | refine bD_ ?_ | refine bA_ ?_ _)); exact BK169.out)) : gb170 ≠ gb169)); clear BK169; clear HB; have BK169 := n0_; have HB := n1_; have BK170 := n2_; have GW170 := n3_; have GE170 := n4_; have NB169_170 := n5_; have NB170_169 := n6_; clear n0_ n1_ n2_ n3_ n4_ n5_ n6_; clear hb hbox hg))
          have n0_ := Aside0.mk (bD_ BK169.out)
          have n1_ := Aside0.mk (bD_ BK170.out)
          have n2_ := Aside0.mk (bY_ HB.out)
          clear BK169
          clear BK170
          clear HB
          have BK169 := n0_
          have BK170 := n1_
          have HB := n2_
          clear n0_ n1_ n2_
          refine start_ (n := 6) (S := fun w' => w'.cell? ⟨gb169, 0, none⟩ = some (.int .u64 a0_0) ∧ w'.cell? ⟨gb169, 1, none⟩ = some (.int .u64 a0_1) ∧ w'.cell? ⟨gb169, 2, none⟩ = some (.int .u64 a0_2) ∧ w'.cell? ⟨gb170, 0, none⟩ = some (.int .u64 a1_0) ∧ w'.cell? ⟨gb170, 1, none⟩ = some (.int .u64 a1_1) ∧ w'.cell? ⟨gb170, 2, none⟩ = some (.int .u64 a1_2)) (ds := [4, 5]) #[false, false, false, false, false, false] (by kernel_rfl) rfl rfl ⟨(bC_ BK169.out 0).trans rfl, (bC_ BK169.out 1).trans rfl, (bC_ BK169.out 2).trans rfl, (bC_ BK170.out 0).trans rfl, (bC_ BK170.out 1).trans rfl, (bC_ BK170.out 2).trans rfl⟩ (fun hHeld => ?_)
          generalize w27.drew = w28 at BK169 BK170 HB hHeld ⊢
          refine take_ (i := 0) (N := some 5) (v := ?_) (a' := ?_) #[true, false, false, false, false, false] rfl rfl (by kernel_rfl) (fun _ _ _ h => h) (Or.inl ⟨by rfl, ?_⟩) hHeld ?_ ?_
          rotate_left
          · rintro w' ⟨s0, s1, s2, s3, s4, s5⟩
            go_simp
            with_reducible rfl
          rotate_left
          · simp only [Act.put, List.setIfInBounds_toArray, List.set_cons_zero, List.set_cons_succ, i64_w, i32_w]
            rfl
          refine take_ (i := 2) (N := some 7) (v := ?_) (a' := ?_) #[true, false, true, false, false, false] rfl rfl (by kernel_rfl) (fun _ _ _ h => h) (Or.inl ⟨by rfl, ?_⟩) hHeld ?_ ?_
          rotate_left
          · rintro w' ⟨s0, s1, s2, s3, s4, s5⟩
            go_simp
            with_reducible rfl
          rotate_left
          · simp only [Act.put, List.setIfInBounds_toArray, List.set_cons_zero, List.set_cons_succ, i64_w, i32_w]
            rfl
          refine one_ (i := 1) (N := some 6) #[true, true, true, false, false, false] rfl rfl (by kernel_rfl) (by decide) (fun K hK => ?_)
          refine goes_ Tryd.func21 (by kernel_rfl) rfl #[.agg #[.int .u64 a0_0, .int .u64 a0_1, .int .u64 a0_2]] (by rfl) rfl rfl (by (try simp only [List.map_toArray, List.map_cons, List.map_nil]); first | done | rfl | (simp only [List.length_drop, List.length_take]; rfl)) ?_
          with_reducible refine (sundialref22_seen.calls a0_0 a0_1 a0_2 t171 t172 t173 _ A3.out).mono ?_
          rintro e w29 ⟨rfl, hb⟩
          refine ⟨_, rfl, ?_⟩
          have n0_ := Aside0.mk (blk_below (g := gb169) (o := .cells #[.int .u64 a0_0, .int .u64 a0_1, .int .u64 a0_2] 24 (0, 0)) (by (with_reducible repeat (first | refine bN_ ?_ _ | refine bD_ ?_ | refine bA_ ?_ _)); exact BK169.out) hb)
          have n1_ := Aside0.mk (blk_below (g := gb170) (o := .cells #[.int .u64 a1_0, .int .u64 a1_1, .int .u64 a1_2] 24 (0, 0)) (by (with_reducible repeat (first | refine bN_ ?_ _ | refine bD_ ?_ | refine bA_ ?_ _)); exact BK170.out) hb)
          have n2_ := Aside0.mk (below_step (by repeat (first | (with_reducible first | exact HB.out | apply bX_ | apply bW_ | apply bY_ | refine bS_ ?_ GE169.out | refine bS_ ?_ GE170.out) | exact HB.out)) hb)
          clear BK169
          clear BK170
          clear HB
          have BK169 := n0_
          have BK170 := n1_
          have HB := n2_
          clear n0_ n1_ n2_
          (try clear hb)
          (try clear hb2)
          (try clear hk)
          (try clear hi)
          refine hK.out _ _ ⟨(bC_ BK169.out 0).trans rfl, (bC_ BK169.out 1).trans rfl, (bC_ BK169.out 2).trans rfl, (bC_ BK170.out 0).trans rfl, (bC_ BK170.out 1).trans rfl, (bC_ BK170.out 2).trans rfl⟩ (fun hHeld => ?_)
          clear hK K
          refine norm_ (a' := ?_) ?_ ?_
          rotate_left
          · show Act.put _ (some 6) _ = _
            simp only [Act.put, List.setIfInBounds_toArray, List.set_cons_zero, List.set_cons_succ, i64_w, i32_w]
            rfl
          refine one_ (i := 3) (N := some 8) #[true, true, true, true, false, false] rfl rfl (by kernel_rfl) (by decide) (fun K hK => ?_)
          refine goes_ Tryd.func21 (by kernel_rfl) rfl #[.agg #[.int .u64 a1_0, .int .u64 a1_1, .int .u64 a1_2]] (by rfl) rfl rfl (by (try simp only [List.map_toArray, List.map_cons, List.map_nil]); first | done | rfl | (simp only [List.length_drop, List.length_take]; rfl)) ?_
          with_reducible refine (sundialref22_seen.calls a1_0 a1_1 a1_2 t174 t175 t176 _ A4.out).mono ?_
          rintro e w30 ⟨rfl, hb⟩
          refine ⟨_, rfl, ?_⟩
          have n0_ := Aside0.mk (blk_below (g := gb169) (o := .cells #[.int .u64 a0_0, .int .u64 a0_1, .int .u64 a0_2] 24 (0, 0)) (by (with_reducible repeat (first | refine bN_ ?_ _ | refine bD_ ?_ | refine bA_ ?_ _)); exact BK169.out) hb)
          have n1_ := Aside0.mk (blk_below (g := gb170) (o := .cells #[.int .u64 a1_0, .int .u64 a1_1, .int .u64 a1_2] 24 (0, 0)) (by (with_reducible repeat (first | refine bN_ ?_ _ | refine bD_ ?_ | refine bA_ ?_ _)); exact BK170.out) hb)
          have n2_ := Aside0.mk (below_step (by repeat (first | (with_reducible first | exact HB.out | apply bX_ | apply bW_ | apply bY_ | refine bS_ ?_ GE169.out | refine bS_ ?_ GE170.out) | exact HB.out)) hb)
          clear BK169
          clear BK170
          clear HB
          have BK169 := n0_
          have BK170 := n1_
          have HB := n2_
          clear n0_ n1_ n2_
          (try clear hb)
          (try clear hb2)
          (try clear hk)
          (try clear hi)
          refine hK.out _ _ ⟨(bC_ BK169.out 0).trans rfl, (bC_ BK169.out 1).trans rfl, (bC_ BK169.out 2).trans rfl, (bC_ BK170.out 0).trans rfl, (bC_ BK170.out 1).trans rfl, (bC_ BK170.out 2).trans rfl⟩ (fun hHeld => ?_)
          clear hK K
          refine norm_ (a' := ?_) ?_ ?_
          rotate_left
          · show Act.put _ (some 8) _ = _
            simp only [Act.put, List.setIfInBounds_toArray, List.set_cons_zero, List.set_cons_succ, i64_w, i32_w]
            rfl
          refine last_ (i := 4) (N := none) #[true, true, true, true, true, false] rfl rfl (by kernel_rfl) (by decide) (fun K hK => ?_)
          have hs31 : w30.cell? ⟨gb169, 0, none⟩ = some (.int .u64 a0_0) := (bC_ BK169.out 0).trans rfl
          have hfs31 := bF_ BK169.out 0
          have hns31_1 := NB170_169.out
          have hms31_1 := NB169_170.out
          have hs32 : w30.cell? ⟨gb169, 1, none⟩ = some (.int .u64 a0_1) := (bC_ BK169.out 1).trans rfl
          have hfs32 := bF_ BK169.out 1
          have hns32_1 := NB170_169.out
          have hms32_1 := NB169_170.out
          have hs33 : w30.cell? ⟨gb169, 2, none⟩ = some (.int .u64 a0_2) := (bC_ BK169.out 2).trans rfl
          have hfs33 := bF_ BK169.out 2
          have hns33_1 := NB170_169.out
          have hms33_1 := NB169_170.out
          refine skip_ (w1 := ?_) (by rfl) rfl ?_ ?_
          rotate_left
          · go_simp
            rfl
          refine hK.out _ _ ?_
          clear hK K
          refine last_ (i := 5) (N := none) #[true, true, true, true, true, true] rfl rfl (by kernel_rfl) (by decide) (fun K hK => ?_)
          have hs34 : w30.cell? ⟨gb170, 0, none⟩ = some (.int .u64 a1_0) := (bC_ BK170.out 0).trans rfl
          have hfs34 := bF_ BK170.out 0
          have hns34_0 := NB169_170.out
          have hms34_0 := NB170_169.out
          have hs35 : w30.cell? ⟨gb170, 1, none⟩ = some (.int .u64 a1_1) := (bC_ BK170.out 1).trans rfl
          have hfs35 := bF_ BK170.out 1
          have hns35_0 := NB169_170.out
          have hms35_0 := NB170_169.out
          have hs36 : w30.cell? ⟨gb170, 2, none⟩ = some (.int .u64 a1_2) := (bC_ BK170.out 2).trans rfl
          have hfs36 := bF_ BK170.out 2
          have hns36_0 := NB169_170.out
          have hms36_0 := NB170_169.out
          refine skip_ (w1 := ?_) (by rfl) rfl ?_ ?_
          rotate_left
          · go_simp
            rfl
          refine hK.out _ _ ?_
          clear hK K
          refine done_ (by kernel_rfl) ?_
          have hnb37 := NB169_170.out
          have hnc37 := NB170_169.out
          have hcz38_0 : w30.cell? ⟨gb169, 0, none⟩ = some (.int .u64 a0_0) := (bC_ BK169.out 0).trans rfl
          have hcz38_1 : w30.cell? ⟨gb169, 1, none⟩ = some (.int .u64 a0_1) := (bC_ BK169.out 1).trans rfl
          have hcz38_2 : w30.cell? ⟨gb169, 2, none⟩ = some (.int .u64 a0_2) := (bC_ BK169.out 2).trans rfl
          have hfz38_0 := bF_ BK169.out 0
          have hfz38_1 := bF_ BK169.out 1
          have hfz38_2 := bF_ BK169.out 2
          try go_wp2_with (first | ((with_reducible refine gate_callee (f := 22) rfl ?_); refine goesL_ (some 10) rfl rfl Tryd.func22 (by kernel_rfl) rfl #[.agg #[.int .u64 t171, .int .u64 t172, .int .u64 t173]] rfl (by (try simp only [List.map_toArray, List.map_cons, List.map_nil]); first | done | rfl | (simp only [List.length_drop, List.length_take]; rfl)) ?_; (with_reducible refine (sundialref22_empty.calls t171 t172 t173 false _ A5.out).mono ?_); rintro e w39 ⟨rfl, hb⟩; refine ⟨_, rfl, ?_⟩; have n0_ := Aside0.mk (blk_below (g := gb169) (o := .cells #[.int .u64 t171, .int .u64 t172, .int .u64 t173] 24 (0, 0)) (by (with_reducible repeat (first | refine bN_ ?_ _ | refine bD_ ?_ | refine bA_ ?_ _)); refine blk_far ?_ NB169_170.out _; (with_reducible repeat (first | refine bN_ ?_ _ | refine bD_ ?_ | refine bA_ ?_ _)); refine blk_far ?_ NB169_170.out _; (with_reducible repeat (first | refine bN_ ?_ _ | refine bD_ ?_ | refine bA_ ?_ _)); refine blk_far ?_ NB169_170.out _; (with_reducible repeat (first | refine bN_ ?_ _ | refine bD_ ?_ | refine bA_ ?_ _)); refine blk_put (cs := #[.int .u64 t171, .int .u64 t172, .int .u64 a0_2]) ?_ 2 _ rfl; (with_reducible repeat (first | refine bN_ ?_ _ | refine bD_ ?_ | refine bA_ ?_ _)); refine blk_put (cs := #[.int .u64 t171, .int .u64 a0_1, .int .u64 a0_2]) ?_ 1 _ rfl; (with_reducible repeat (first | refine bN_ ?_ _ | refine bD_ ?_ | refine bA_ ?_ _)); refine blk_put (cs := #[.int .u64 a0_0, .int .u64 a0_1, .int .u64 a0_2]) ?_ 0 _ rfl; (with_reducible repeat (first | refine bN_ ?_ _ | refine bD_ ?_ | refine bA_ ?_ _)); exact BK169.out) hb); have n1_ := Aside0.mk (blk_below (g := gb170) (o := .cells #[.int .u64 t174, .int .u64 t175, .int .u64 t176] 24 (0, 0)) (by (with_reducible repeat (first | refine bN_ ?_ _ | refine bD_ ?_ | refine bA_ ?_ _)); refine blk_put (cs := #[.int .u64 t174, .int .u64 t175, .int .u64 a1_2]) ?_ 2 _ rfl; (with_reducible repeat (first | refine bN_ ?_ _ | refine bD_ ?_ | refine bA_ ?_ _)); refine blk_put (cs := #[.int .u64 t174, .int .u64 a1_1, .int .u64 a1_2]) ?_ 1 _ rfl; (with_reducible repeat (first | refine bN_ ?_ _ | refine bD_ ?_ | refine bA_ ?_ _)); refine blk_put (cs := #[.int .u64 a1_0, .int .u64 a1_1, .int .u64 a1_2]) ?_ 0 _ rfl; (with_reducible repeat (first | refine bN_ ?_ _ | refine bD_ ?_ | refine bA_ ?_ _)); refine blk_far ?_ NB170_169.out _; (with_reducible repeat (first | refine bN_ ?_ _ | refine bD_ ?_ | refine bA_ ?_ _)); refine blk_far ?_ NB170_169.out _; (with_reducible repeat (first | refine bN_ ?_ _ | refine bD_ ?_ | refine bA_ ?_ _)); refine blk_far ?_ NB170_169.out _; (with_reducible repeat (first | refine bN_ ?_ _ | refine bD_ ?_ | refine bA_ ?_ _)); exact BK170.out) hb); have n2_ := Aside0.mk (below_step (by repeat (first | (with_reducible first | exact HB.out | apply bX_ | apply bW_ | apply bY_ | refine bS_ ?_ GE169.out | refine bS_ ?_ GE170.out) | exact HB.out)) hb); clear BK169; clear BK170; clear HB; have BK169 := n0_; have BK170 := n1_; have HB := n2_; clear n0_ n1_ n2_; (try clear hb); (try clear hb2); (try clear hk); (try clear hi); have hcz40_0 : w39.cell? ⟨gb170, 0, none⟩ = some (.int .u64 t174) := (bC_ BK170.out 0).trans rfl; have hcz40_1 : w39.cell? ⟨gb170, 1, none⟩ = some (.int .u64 t175) := (bC_ BK170.out 1).trans rfl; have hcz40_2 : w39.cell? ⟨gb170, 2, none⟩ = some (.int .u64 t176) := (bC_ BK170.out 2).trans rfl; have hfz40_0 := bF_ BK170.out 0; have hfz40_1 := bF_ BK170.out 1; have hfz40_2 := bF_ BK170.out 2; have hcz41_0 : w39.cell? ⟨gb169, 0, none⟩ = some (.int .u64 t171) := (bC_ BK169.out 0).trans rfl; have hcz41_1 : w39.cell? ⟨gb169, 1, none⟩ = some (.int .u64 t172) := (bC_ BK169.out 1).trans rfl; have hcz41_2 : w39.cell? ⟨gb169, 2, none⟩ = some (.int .u64 t173) := (bC_ BK169.out 2).trans rfl; have hfz41_0 := bF_ BK169.out 0; have hfz41_1 := bF_ BK169.out 1; have hfz41_2 := bF_ BK169.out 2) | ((with_reducible refine gate_callee (f := 41) rfl ?_); refine goesL_ (some 14) rfl rfl Tryd.func41 (by kernel_rfl) rfl #[.agg #[.int .u64 t174, .int .u64 t175, .int .u64 t176], .int .u64 t172] rfl (by (try simp only [List.map_toArray, List.map_cons, List.map_nil]); first | done | rfl | (simp only [List.length_drop, List.length_take]; rfl)) ?_; (with_reducible refine (sundialref22_Has.calls t174 t175 t176 t172 true _ A21.out).mono ?_); rintro e w42 ⟨rfl, hb⟩; refine ⟨_, rfl, ?_⟩; have n0_ := Aside0.mk (blk_below (g := gb169) (o := .cells #[.int .u64 t171, .int .u64 t172, .int .u64 t173] 24 (0, 0)) (by (with_reducible repeat (first | refine bN_ ?_ _ | refine bD_ ?_ | refine bA_ ?_ _)); exact BK169.out) hb); have n1_ := Aside0.mk (blk_below (g := gb170) (o := .cells #[.int .u64 t174, .int .u64 t175, .int .u64 t176] 24 (0, 0)) (by (with_reducible repeat (first | refine bN_ ?_ _ | refine bD_ ?_ | refine bA_ ?_ _)); exact BK170.out) hb); have n2_ := Aside0.mk (below_step (by repeat (first | (with_reducible first | exact HB.out | apply bX_ | apply bW_ | apply bY_ | refine bS_ ?_ GE169.out | refine bS_ ?_ GE170.out) | exact HB.out)) hb); clear BK169; clear BK170; clear HB; have BK169 := n0_; have BK170 := n1_; have HB := n2_; clear n0_ n1_ n2_; (try clear hb); (try clear hb2); (try clear hk); (try clear hi); have hcz43_0 : w42.cell? ⟨gb170, 0, none⟩ = some (.int .u64 t174) := (bC_ BK170.out 0).trans rfl; have hcz43_1 : w42.cell? ⟨gb170, 1, none⟩ = some (.int .u64 t175) := (bC_ BK170.out 1).trans rfl; have hcz43_2 : w42.cell? ⟨gb170, 2, none⟩ = some (.int .u64 t176) := (bC_ BK170.out 2).trans rfl; have hfz43_0 := bF_ BK170.out 0; have hfz43_1 := bF_ BK170.out 1; have hfz43_2 := bF_ BK170.out 2; have hcz44_0 : w42.cell? ⟨gb169, 0, none⟩ = some (.int .u64 t171) := (bC_ BK169.out 0).trans rfl; have hcz44_1 : w42.cell? ⟨gb169, 1, none⟩ = some (.int .u64 t172) := (bC_ BK169.out 1).trans rfl; have hcz44_2 : w42.cell? ⟨gb169, 2, none⟩ = some (.int .u64 t173) := (bC_ BK169.out 2).trans rfl; have hfz44_0 := bF_ BK169.out 0; have hfz44_1 := bF_ BK169.out 1; have hfz44_2 := bF_ BK169.out 2) | (go_at_call 41; (with_reducible refine (sundialref22_Has.calls t174 t175 t176 t173 true _ A23.out).mono ?_); rintro e w45 ⟨rfl, hb⟩; have n0_ := Aside0.mk (blk_below (g := gb169) (o := .cells #[.int .u64 t171, .int .u64 t172, .int .u64 t173] 24 (0, 0)) (by (with_reducible repeat (first | refine bN_ ?_ _ | refine bD_ ?_ | refine bA_ ?_ _)); exact BK169.out) hb); have n1_ := Aside0.mk (blk_below (g := gb170) (o := .cells #[.int .u64 t174, .int .u64 t175, .int .u64 t176] 24 (0, 0)) (by (with_reducible repeat (first | refine bN_ ?_ _ | refine bD_ ?_ | refine bA_ ?_ _)); exact BK170.out) hb); have n2_ := Aside0.mk (below_step (by repeat (first | (with_reducible first | exact HB.out | apply bX_ | apply bW_ | apply bY_ | refine bS_ ?_ GE169.out | refine bS_ ?_ GE170.out) | exact HB.out)) hb); clear BK169; clear BK170; clear HB; have BK169 := n0_; have BK170 := n1_; have HB := n2_; clear n0_ n1_ n2_; (try clear hb); (try clear hb2); (try clear hk); (try clear hi); have hcz46_0 : w45.cell? ⟨gb169, 0, none⟩ = some (.int .u64 t171) := (bC_ BK169.out 0).trans rfl; have hcz46_1 : w45.cell? ⟨gb169, 1, none⟩ = some (.int .u64 t172) := (bC_ BK169.out 1).trans rfl; have hcz46_2 : w45.cell? ⟨gb169, 2, none⟩ = some (.int .u64 t173) := (bC_ BK169.out 2).trans rfl; have hfz46_0 := bF_ BK169.out 0; have hfz46_1 := bF_ BK169.out 1; have hfz46_2 := bF_ BK169.out 2))
          go_ret
          exact ⟨by first | rfl | (simp [errW_none, errW_some] <;> rfl) | (simp [*, errW_none, errW_some] <;> rfl), by repeat (first | (with_reducible first | exact HB.out | apply bX_ | apply bW_ | apply bY_ | refine bS_ ?_ GE169.out | refine bS_ ?_ GE170.out) | exact HB.out)⟩
        · rw [if_neg c25] at H
          have c25b0 : (t171 == 0) = false := beq_eq_false_iff_ne.mpr c25
          have c25b1 : (t171 != 0) = true := bne_iff_ne.mpr c25
          replace H := Option.bind_eq_some_iff.mp H
          obtain ⟨t180, A470, H⟩ := H
          replace H : (if t180 = true then (if (mx t174 1) = 0 then (none) else (some ((Int.tmod t171 (mx t174 1)) == 0))) else (some false)) = some r := H
          have A47 := Aside0.mk A470
          clear A470
          by_cases c48 : t180 = true
          · subst c48
            have H1 : (if (mx t174 1) = 0 then (none) else (some ((Int.tmod t171 (mx t174 1)) == 0))) = some r := by rw [if_pos rfl] at H; exact H
            clear H
            have H := H1
            clear H1
            obtain ⟨ji49, hji49⟩ : ∃ j_ : Int, (mx t174 1) = j_ := ⟨_, rfl⟩
            replace H : (if (ji49) = 0 then (none) else (some ((Int.tmod t171 (ji49)) == 0))) = some r := by first | (rw [hji49] at H; exact H) | (simp only [hji49] at H ⊢; exact H)
            (try rw [hji49] at A3)
            (try rw [hji49] at A4)
            (try rw [hji49] at A5)
            (try rw [hji49] at A21)
            (try rw [hji49] at A23)
            (try rw [hji49] at A47)
            (try (have hji49l : 1 ≤ ji49 := by (rw [← hji49]; unfold mx; (repeat' split) <;> omega)))
            (try (have hji49m : 0 ≤ ji49 := by omega))
            have hji49_ : (if t174 < 1 then 1 else t174) = ji49 := hji49
            by_cases c50 : (ji49) = 0
            · rw [if_pos c50] at H
              exact absurd H (by simp)
            · rw [if_neg c50] at H
              have c50b0 : ((ji49) == 0) = false := beq_eq_false_iff_ne.mpr c50
              have c50b1 : ((ji49) != 0) = true := bne_iff_ne.mpr c50
              obtain rfl := Option.some.inj H
              go_enter Tryd.func20, Tryd.ntmps20
              try go_wp2_with (first | ((with_reducible refine gate_dst (N := 2) rfl ?_); (try (refine gate_guard (by rfl) ?_; dsimp only)); refine box_event ?hg (N := 2) ?hd (cs := #[.int .u64 a0_0, .int .u64 a0_1, .int .u64 a0_2]) (t := 24) ?hr ?_; (case hd => rfl); (case hg => rfl); (case hr => first | (go_simp; done) | (go_simp; rfl)); intro gb169 hg w51 hbox hb; have n0_ := Aside0.mk (below_step (by repeat (first | (with_reducible first | exact HB.out | apply bX_ | apply bW_ | apply bY_) | exact HB.out)) hb); have n1_ := Aside0.mk (hbox); have n2_ := Aside0.mk ((by rw [hg]; exact (below_size (by repeat (first | (with_reducible first | exact HB.out | apply bX_ | apply bW_ | apply bY_) | exact HB.out))) : w.heap.size ≤ gb169)); have n3_ := Aside0.mk ((by rw [hg]; exact (below_size (by repeat (first | (with_reducible first | exact HB.out | apply bX_ | apply bW_ | apply bY_) | exact HB.out))) : w.heap.size ≤ gb169)); clear HB; have HB := n0_; have BK169 := n1_; have GW169 := n2_; have GE169 := n3_; clear n0_ n1_ n2_ n3_; clear hb hbox hg) | ((with_reducible refine gate_dst (N := 3) rfl ?_); (try (refine gate_guard (by rfl) ?_; dsimp only)); refine box_event ?hg (N := 3) ?hd (cs := #[.int .u64 a1_0, .int .u64 a1_1, .int .u64 a1_2]) (t := 24) ?hr ?_; (case hd => rfl); (case hg => rfl); (case hr => first | (go_simp; done) | (go_simp; rfl)); intro gb170 hg w52 hbox hb; have n0_ := Aside0.mk (blk_below (g := gb169) (o := .cells #[.int .u64 a0_0, .int .u64 a0_1, .int .u64 a0_2] 24 (0, 0)) (by (with_reducible repeat (first | refine bN_ ?_ _ | refine bD_ ?_ | refine bA_ ?_ _)); exact BK169.out) hb); have n1_ := Aside0.mk (below_step (by repeat (first | (with_reducible first | exact HB.out | apply bX_ | apply bW_ | apply bY_ | refine bS_ ?_ GE169.out) | exact HB.out)) hb); have n2_ := Aside0.mk (hbox); have n3_ := Aside0.mk ((by rw [hg]; exact (below_size (by repeat (first | (with_reducible first | exact HB.out | apply bX_ | apply bW_ | apply bY_ | refine bS_ ?_ GE169.out) | exact HB.out))) : w.heap.size ≤ gb170)); have n4_ := Aside0.mk ((by rw [hg]; exact (below_size (by repeat (first | (with_reducible first | exact HB.out | apply bX_ | apply bW_ | apply bY_ | refine bS_ ?_ GE169.out) | exact HB.out))) : w.heap.size ≤ gb170)); have n5_ := Aside0.mk ((by rw [hg]; exact Nat.ne_of_lt (blk_lt (g := gb169) (o := .cells #[.int .u64 a0_0, .int .u64 a0_1, .int .u64 a0_2] 24 (0, 0)) (by (with_reducible repeat (first | refine bN_ ?_ _ | refine bD_ ?_ | refine bA_ ?_ _)); exact BK169.out)) : gb169 ≠ gb170)); have n6_ := Aside0.mk ((by rw [hg]; exact Nat.ne_of_gt (blk_lt (g := gb169) (o := .cells #[.int .u64 a0_0, .int .u64 a0_1, .int .u64 a0_2] 24 (0, 0)) (by (with_reducible repeat (first | refine bN_ ?_ _ | refine bD_ ?_ | refine bA_ ?_ _)); exact BK169.out)) : gb170 ≠ gb169)); clear BK169; clear HB; have BK169 := n0_; have HB := n1_; have BK170 := n2_; have GW170 := n3_; have GE170 := n4_; have NB169_170 := n5_; have NB170_169 := n6_; clear n0_ n1_ n2_ n3_ n4_ n5_ n6_; clear hb hbox hg))
              have n0_ := Aside0.mk (bD_ BK169.out)
              have n1_ := Aside0.mk (bD_ BK170.out)
              have n2_ := Aside0.mk (bY_ HB.out)
              clear BK169
              clear BK170
              clear HB
              have BK169 := n0_
              have BK170 := n1_
              have HB := n2_
              clear n0_ n1_ n2_
              refine start_ (n := 6) (S := fun w' => w'.cell? ⟨gb169, 0, none⟩ = some (.int .u64 a0_0) ∧ w'.cell? ⟨gb169, 1, none⟩ = some (.int .u64 a0_1) ∧ w'.cell? ⟨gb169, 2, none⟩ = some (.int .u64 a0_2) ∧ w'.cell? ⟨gb170, 0, none⟩ = some (.int .u64 a1_0) ∧ w'.cell? ⟨gb170, 1, none⟩ = some (.int .u64 a1_1) ∧ w'.cell? ⟨gb170, 2, none⟩ = some (.int .u64 a1_2)) (ds := [4, 5]) #[false, false, false, false, false, false] (by kernel_rfl) rfl rfl ⟨(bC_ BK169.out 0).trans rfl, (bC_ BK169.out 1).trans rfl, (bC_ BK169.out 2).trans rfl, (bC_ BK170.out 0).trans rfl, (bC_ BK170.out 1).trans rfl, (bC_ BK170.out 2).trans rfl⟩ (fun hHeld => ?_)
              generalize w52.drew = w53 at BK169 BK170 HB hHeld ⊢
              refine take_ (i := 0) (N := some 5) (v := ?_) (a' := ?_) #[true, false, false, false, false, false] rfl rfl (by kernel_rfl) (fun _ _ _ h => h) (Or.inl ⟨by rfl, ?_⟩) hHeld ?_ ?_
              rotate_left
              · rintro w' ⟨s0, s1, s2, s3, s4, s5⟩
                go_simp
                with_reducible rfl
              rotate_left
              · simp only [Act.put, List.setIfInBounds_toArray, List.set_cons_zero, List.set_cons_succ, i64_w, i32_w]
                rfl
              refine take_ (i := 2) (N := some 7) (v := ?_) (a' := ?_) #[true, false, true, false, false, false] rfl rfl (by kernel_rfl) (fun _ _ _ h => h) (Or.inl ⟨by rfl, ?_⟩) hHeld ?_ ?_
              rotate_left
              · rintro w' ⟨s0, s1, s2, s3, s4, s5⟩
                go_simp
                with_reducible rfl
              rotate_left
              · simp only [Act.put, List.setIfInBounds_toArray, List.set_cons_zero, List.set_cons_succ, i64_w, i32_w]
                rfl
              refine one_ (i := 1) (N := some 6) #[true, true, true, false, false, false] rfl rfl (by kernel_rfl) (by decide) (fun K hK => ?_)
              refine goes_ Tryd.func21 (by kernel_rfl) rfl #[.agg #[.int .u64 a0_0, .int .u64 a0_1, .int .u64 a0_2]] (by rfl) rfl rfl (by (try simp only [List.map_toArray, List.map_cons, List.map_nil]); first | done | rfl | (simp only [List.length_drop, List.length_take]; rfl)) ?_
              with_reducible refine (sundialref22_seen.calls a0_0 a0_1 a0_2 t171 t172 t173 _ A3.out).mono ?_
              rintro e w54 ⟨rfl, hb⟩
              refine ⟨_, rfl, ?_⟩
              have n0_ := Aside0.mk (blk_below (g := gb169) (o := .cells #[.int .u64 a0_0, .int .u64 a0_1, .int .u64 a0_2] 24 (0, 0)) (by (with_reducible repeat (first | refine bN_ ?_ _ | refine bD_ ?_ | refine bA_ ?_ _)); exact BK169.out) hb)
              have n1_ := Aside0.mk (blk_below (g := gb170) (o := .cells #[.int .u64 a1_0, .int .u64 a1_1, .int .u64 a1_2] 24 (0, 0)) (by (with_reducible repeat (first | refine bN_ ?_ _ | refine bD_ ?_ | refine bA_ ?_ _)); exact BK170.out) hb)
              have n2_ := Aside0.mk (below_step (by repeat (first | (with_reducible first | exact HB.out | apply bX_ | apply bW_ | apply bY_ | refine bS_ ?_ GE169.out | refine bS_ ?_ GE170.out) | exact HB.out)) hb)
              clear BK169
              clear BK170
              clear HB
              have BK169 := n0_
              have BK170 := n1_
              have HB := n2_
              clear n0_ n1_ n2_
              (try clear hb)
              (try clear hb2)
              (try clear hk)
              (try clear hi)
              refine hK.out _ _ ⟨(bC_ BK169.out 0).trans rfl, (bC_ BK169.out 1).trans rfl, (bC_ BK169.out 2).trans rfl, (bC_ BK170.out 0).trans rfl, (bC_ BK170.out 1).trans rfl, (bC_ BK170.out 2).trans rfl⟩ (fun hHeld => ?_)
              clear hK K
              refine norm_ (a' := ?_) ?_ ?_
              rotate_left
              · show Act.put _ (some 6) _ = _
                simp only [Act.put, List.setIfInBounds_toArray, List.set_cons_zero, List.set_cons_succ, i64_w, i32_w]
                rfl
              refine one_ (i := 3) (N := some 8) #[true, true, true, true, false, false] rfl rfl (by kernel_rfl) (by decide) (fun K hK => ?_)
              refine goes_ Tryd.func21 (by kernel_rfl) rfl #[.agg #[.int .u64 a1_0, .int .u64 a1_1, .int .u64 a1_2]] (by rfl) rfl rfl (by (try simp only [List.map_toArray, List.map_cons, List.map_nil]); first | done | rfl | (simp only [List.length_drop, List.length_take]; rfl)) ?_
              with_reducible refine (sundialref22_seen.calls a1_0 a1_1 a1_2 t174 t175 t176 _ A4.out).mono ?_
              rintro e w55 ⟨rfl, hb⟩
              refine ⟨_, rfl, ?_⟩
              have n0_ := Aside0.mk (blk_below (g := gb169) (o := .cells #[.int .u64 a0_0, .int .u64 a0_1, .int .u64 a0_2] 24 (0, 0)) (by (with_reducible repeat (first | refine bN_ ?_ _ | refine bD_ ?_ | refine bA_ ?_ _)); exact BK169.out) hb)
              have n1_ := Aside0.mk (blk_below (g := gb170) (o := .cells #[.int .u64 a1_0, .int .u64 a1_1, .int .u64 a1_2] 24 (0, 0)) (by (with_reducible repeat (first | refine bN_ ?_ _ | refine bD_ ?_ | refine bA_ ?_ _)); exact BK170.out) hb)
              have n2_ := Aside0.mk (below_step (by repeat (first | (with_reducible first | exact HB.out | apply bX_ | apply bW_ | apply bY_ | refine bS_ ?_ GE169.out | refine bS_ ?_ GE170.out) | exact HB.out)) hb)
              clear BK169
              clear BK170
              clear HB
              have BK169 := n0_
              have BK170 := n1_
              have HB := n2_
              clear n0_ n1_ n2_
              (try clear hb)
              (try clear hb2)
              (try clear hk)
              (try clear hi)
              refine hK.out _ _ ⟨(bC_ BK169.out 0).trans rfl, (bC_ BK169.out 1).trans rfl, (bC_ BK169.out 2).trans rfl, (bC_ BK170.out 0).trans rfl, (bC_ BK170.out 1).trans rfl, (bC_ BK170.out 2).trans rfl⟩ (fun hHeld => ?_)
              clear hK K
              refine norm_ (a' := ?_) ?_ ?_
              rotate_left
              · show Act.put _ (some 8) _ = _
                simp only [Act.put, List.setIfInBounds_toArray, List.set_cons_zero, List.set_cons_succ, i64_w, i32_w]
                rfl
              refine last_ (i := 4) (N := none) #[true, true, true, true, true, false] rfl rfl (by kernel_rfl) (by decide) (fun K hK => ?_)
              have hs56 : w55.cell? ⟨gb169, 0, none⟩ = some (.int .u64 a0_0) := (bC_ BK169.out 0).trans rfl
              have hfs56 := bF_ BK169.out 0
              have hns56_1 := NB170_169.out
              have hms56_1 := NB169_170.out
              have hs57 : w55.cell? ⟨gb169, 1, none⟩ = some (.int .u64 a0_1) := (bC_ BK169.out 1).trans rfl
              have hfs57 := bF_ BK169.out 1
              have hns57_1 := NB170_169.out
              have hms57_1 := NB169_170.out
              have hs58 : w55.cell? ⟨gb169, 2, none⟩ = some (.int .u64 a0_2) := (bC_ BK169.out 2).trans rfl
              have hfs58 := bF_ BK169.out 2
              have hns58_1 := NB170_169.out
              have hms58_1 := NB169_170.out
              refine skip_ (w1 := ?_) (by rfl) rfl ?_ ?_
              rotate_left
              · go_simp
                rfl
              refine hK.out _ _ ?_
              clear hK K
              refine last_ (i := 5) (N := none) #[true, true, true, true, true, true] rfl rfl (by kernel_rfl) (by decide) (fun K hK => ?_)
              have hs59 : w55.cell? ⟨gb170, 0, none⟩ = some (.int .u64 a1_0) := (bC_ BK170.out 0).trans rfl
              have hfs59 := bF_ BK170.out 0
              have hns59_0 := NB169_170.out
              have hms59_0 := NB170_169.out
              have hs60 : w55.cell? ⟨gb170, 1, none⟩ = some (.int .u64 a1_1) := (bC_ BK170.out 1).trans rfl
              have hfs60 := bF_ BK170.out 1
              have hns60_0 := NB169_170.out
              have hms60_0 := NB170_169.out
              have hs61 : w55.cell? ⟨gb170, 2, none⟩ = some (.int .u64 a1_2) := (bC_ BK170.out 2).trans rfl
              have hfs61 := bF_ BK170.out 2
              have hns61_0 := NB169_170.out
              have hms61_0 := NB170_169.out
              refine skip_ (w1 := ?_) (by rfl) rfl ?_ ?_
              rotate_left
              · go_simp
                rfl
              refine hK.out _ _ ?_
              clear hK K
              refine done_ (by kernel_rfl) ?_
              have hnb62 := NB169_170.out
              have hnc62 := NB170_169.out
              have hcz63_0 : w55.cell? ⟨gb169, 0, none⟩ = some (.int .u64 a0_0) := (bC_ BK169.out 0).trans rfl
              have hcz63_1 : w55.cell? ⟨gb169, 1, none⟩ = some (.int .u64 a0_1) := (bC_ BK169.out 1).trans rfl
              have hcz63_2 : w55.cell? ⟨gb169, 2, none⟩ = some (.int .u64 a0_2) := (bC_ BK169.out 2).trans rfl
              have hfz63_0 := bF_ BK169.out 0
              have hfz63_1 := bF_ BK169.out 1
              have hfz63_2 := bF_ BK169.out 2
              try go_wp2_with (first | ((with_reducible refine gate_callee (f := 22) rfl ?_); refine goesL_ (some 10) rfl rfl Tryd.func22 (by kernel_rfl) rfl #[.agg #[.int .u64 t171, .int .u64 t172, .int .u64 t173]] rfl (by (try simp only [List.map_toArray, List.map_cons, List.map_nil]); first | done | rfl | (simp only [List.length_drop, List.length_take]; rfl)) ?_; (with_reducible refine (sundialref22_empty.calls t171 t172 t173 false _ A5.out).mono ?_); rintro e w64 ⟨rfl, hb⟩; refine ⟨_, rfl, ?_⟩; have n0_ := Aside0.mk (blk_below (g := gb169) (o := .cells #[.int .u64 t171, .int .u64 t172, .int .u64 t173] 24 (0, 0)) (by (with_reducible repeat (first | refine bN_ ?_ _ | refine bD_ ?_ | refine bA_ ?_ _)); refine blk_far ?_ NB169_170.out _; (with_reducible repeat (first | refine bN_ ?_ _ | refine bD_ ?_ | refine bA_ ?_ _)); refine blk_far ?_ NB169_170.out _; (with_reducible repeat (first | refine bN_ ?_ _ | refine bD_ ?_ | refine bA_ ?_ _)); refine blk_far ?_ NB169_170.out _; (with_reducible repeat (first | refine bN_ ?_ _ | refine bD_ ?_ | refine bA_ ?_ _)); refine blk_put (cs := #[.int .u64 t171, .int .u64 t172, .int .u64 a0_2]) ?_ 2 _ rfl; (with_reducible repeat (first | refine bN_ ?_ _ | refine bD_ ?_ | refine bA_ ?_ _)); refine blk_put (cs := #[.int .u64 t171, .int .u64 a0_1, .int .u64 a0_2]) ?_ 1 _ rfl; (with_reducible repeat (first | refine bN_ ?_ _ | refine bD_ ?_ | refine bA_ ?_ _)); refine blk_put (cs := #[.int .u64 a0_0, .int .u64 a0_1, .int .u64 a0_2]) ?_ 0 _ rfl; (with_reducible repeat (first | refine bN_ ?_ _ | refine bD_ ?_ | refine bA_ ?_ _)); exact BK169.out) hb); have n1_ := Aside0.mk (blk_below (g := gb170) (o := .cells #[.int .u64 t174, .int .u64 t175, .int .u64 t176] 24 (0, 0)) (by (with_reducible repeat (first | refine bN_ ?_ _ | refine bD_ ?_ | refine bA_ ?_ _)); refine blk_put (cs := #[.int .u64 t174, .int .u64 t175, .int .u64 a1_2]) ?_ 2 _ rfl; (with_reducible repeat (first | refine bN_ ?_ _ | refine bD_ ?_ | refine bA_ ?_ _)); refine blk_put (cs := #[.int .u64 t174, .int .u64 a1_1, .int .u64 a1_2]) ?_ 1 _ rfl; (with_reducible repeat (first | refine bN_ ?_ _ | refine bD_ ?_ | refine bA_ ?_ _)); refine blk_put (cs := #[.int .u64 a1_0, .int .u64 a1_1, .int .u64 a1_2]) ?_ 0 _ rfl; (with_reducible repeat (first | refine bN_ ?_ _ | refine bD_ ?_ | refine bA_ ?_ _)); refine blk_far ?_ NB170_169.out _; (with_reducible repeat (first | refine bN_ ?_ _ | refine bD_ ?_ | refine bA_ ?_ _)); refine blk_far ?_ NB170_169.out _; (with_reducible repeat (first | refine bN_ ?_ _ | refine bD_ ?_ | refine bA_ ?_ _)); refine blk_far ?_ NB170_169.out _; (with_reducible repeat (first | refine bN_ ?_ _ | refine bD_ ?_ | refine bA_ ?_ _)); exact BK170.out) hb); have n2_ := Aside0.mk (below_step (by repeat (first | (with_reducible first | exact HB.out | apply bX_ | apply bW_ | apply bY_ | refine bS_ ?_ GE169.out | refine bS_ ?_ GE170.out) | exact HB.out)) hb); clear BK169; clear BK170; clear HB; have BK169 := n0_; have BK170 := n1_; have HB := n2_; clear n0_ n1_ n2_; (try clear hb); (try clear hb2); (try clear hk); (try clear hi); have hcz65_0 : w64.cell? ⟨gb170, 0, none⟩ = some (.int .u64 t174) := (bC_ BK170.out 0).trans rfl; have hcz65_1 : w64.cell? ⟨gb170, 1, none⟩ = some (.int .u64 t175) := (bC_ BK170.out 1).trans rfl; have hcz65_2 : w64.cell? ⟨gb170, 2, none⟩ = some (.int .u64 t176) := (bC_ BK170.out 2).trans rfl; have hfz65_0 := bF_ BK170.out 0; have hfz65_1 := bF_ BK170.out 1; have hfz65_2 := bF_ BK170.out 2; have hcz66_0 : w64.cell? ⟨gb169, 0, none⟩ = some (.int .u64 t171) := (bC_ BK169.out 0).trans rfl; have hcz66_1 : w64.cell? ⟨gb169, 1, none⟩ = some (.int .u64 t172) := (bC_ BK169.out 1).trans rfl; have hcz66_2 : w64.cell? ⟨gb169, 2, none⟩ = some (.int .u64 t173) := (bC_ BK169.out 2).trans rfl; have hfz66_0 := bF_ BK169.out 0; have hfz66_1 := bF_ BK169.out 1; have hfz66_2 := bF_ BK169.out 2) | ((with_reducible refine gate_callee (f := 41) rfl ?_); refine goesL_ (some 14) rfl rfl Tryd.func41 (by kernel_rfl) rfl #[.agg #[.int .u64 t174, .int .u64 t175, .int .u64 t176], .int .u64 t172] rfl (by (try simp only [List.map_toArray, List.map_cons, List.map_nil]); first | done | rfl | (simp only [List.length_drop, List.length_take]; rfl)) ?_; (with_reducible refine (sundialref22_Has.calls t174 t175 t176 t172 true _ A21.out).mono ?_); rintro e w67 ⟨rfl, hb⟩; refine ⟨_, rfl, ?_⟩; have n0_ := Aside0.mk (blk_below (g := gb169) (o := .cells #[.int .u64 t171, .int .u64 t172, .int .u64 t173] 24 (0, 0)) (by (with_reducible repeat (first | refine bN_ ?_ _ | refine bD_ ?_ | refine bA_ ?_ _)); exact BK169.out) hb); have n1_ := Aside0.mk (blk_below (g := gb170) (o := .cells #[.int .u64 t174, .int .u64 t175, .int .u64 t176] 24 (0, 0)) (by (with_reducible repeat (first | refine bN_ ?_ _ | refine bD_ ?_ | refine bA_ ?_ _)); exact BK170.out) hb); have n2_ := Aside0.mk (below_step (by repeat (first | (with_reducible first | exact HB.out | apply bX_ | apply bW_ | apply bY_ | refine bS_ ?_ GE169.out | refine bS_ ?_ GE170.out) | exact HB.out)) hb); clear BK169; clear BK170; clear HB; have BK169 := n0_; have BK170 := n1_; have HB := n2_; clear n0_ n1_ n2_; (try clear hb); (try clear hb2); (try clear hk); (try clear hi); have hcz68_0 : w67.cell? ⟨gb170, 0, none⟩ = some (.int .u64 t174) := (bC_ BK170.out 0).trans rfl; have hcz68_1 : w67.cell? ⟨gb170, 1, none⟩ = some (.int .u64 t175) := (bC_ BK170.out 1).trans rfl; have hcz68_2 : w67.cell? ⟨gb170, 2, none⟩ = some (.int .u64 t176) := (bC_ BK170.out 2).trans rfl; have hfz68_0 := bF_ BK170.out 0; have hfz68_1 := bF_ BK170.out 1; have hfz68_2 := bF_ BK170.out 2; have hcz69_0 : w67.cell? ⟨gb169, 0, none⟩ = some (.int .u64 t171) := (bC_ BK169.out 0).trans rfl; have hcz69_1 : w67.cell? ⟨gb169, 1, none⟩ = some (.int .u64 t172) := (bC_ BK169.out 1).trans rfl; have hcz69_2 : w67.cell? ⟨gb169, 2, none⟩ = some (.int .u64 t173) := (bC_ BK169.out 2).trans rfl; have hfz69_0 := bF_ BK169.out 0; have hfz69_1 := bF_ BK169.out 1; have hfz69_2 := bF_ BK169.out 2) | (go_at_call 41; (with_reducible refine (sundialref22_Has.calls t174 t175 t176 t173 true _ A23.out).mono ?_); rintro e w70 ⟨rfl, hb⟩; have n0_ := Aside0.mk (blk_below (g := gb169) (o := .cells #[.int .u64 t171, .int .u64 t172, .int .u64 t173] 24 (0, 0)) (by (with_reducible repeat (first | refine bN_ ?_ _ | refine bD_ ?_ | refine bA_ ?_ _)); exact BK169.out) hb); have n1_ := Aside0.mk (blk_below (g := gb170) (o := .cells #[.int .u64 t174, .int .u64 t175, .int .u64 t176] 24 (0, 0)) (by (with_reducible repeat (first | refine bN_ ?_ _ | refine bD_ ?_ | refine bA_ ?_ _)); exact BK170.out) hb); have n2_ := Aside0.mk (below_step (by repeat (first | (with_reducible first | exact HB.out | apply bX_ | apply bW_ | apply bY_ | refine bS_ ?_ GE169.out | refine bS_ ?_ GE170.out) | exact HB.out)) hb); clear BK169; clear BK170; clear HB; have BK169 := n0_; have BK170 := n1_; have HB := n2_; clear n0_ n1_ n2_; (try clear hb); (try clear hb2); (try clear hk); (try clear hi); have hcz71_0 : w70.cell? ⟨gb169, 0, none⟩ = some (.int .u64 t171) := (bC_ BK169.out 0).trans rfl; have hcz71_1 : w70.cell? ⟨gb169, 1, none⟩ = some (.int .u64 t172) := (bC_ BK169.out 1).trans rfl; have hcz71_2 : w70.cell? ⟨gb169, 2, none⟩ = some (.int .u64 t173) := (bC_ BK169.out 2).trans rfl; have hfz71_0 := bF_ BK169.out 0; have hfz71_1 := bF_ BK169.out 1; have hfz71_2 := bF_ BK169.out 2; have hcz72_0 : w70.cell? ⟨gb170, 0, none⟩ = some (.int .u64 t174) := (bC_ BK170.out 0).trans rfl; have hcz72_1 : w70.cell? ⟨gb170, 1, none⟩ = some (.int .u64 t175) := (bC_ BK170.out 1).trans rfl; have hcz72_2 : w70.cell? ⟨gb170, 2, none⟩ = some (.int .u64 t176) := (bC_ BK170.out 2).trans rfl; have hfz72_0 := bF_ BK170.out 0; have hfz72_1 := bF_ BK170.out 1; have hfz72_2 := bF_ BK170.out 2) | (go_at_call 41; (with_reducible refine (sundialref22_Has.calls t174 t175 t176 (IntKind.u64.wrap (t172 + t171)) true _ A47.out).mono ?_); rintro e w73 ⟨rfl, hb⟩; have n0_ := Aside0.mk (blk_below (g := gb169) (o := .cells #[.int .u64 t171, .int .u64 t172, .int .u64 t173] 24 (0, 0)) (by (with_reducible repeat (first | refine bN_ ?_ _ | refine bD_ ?_ | refine bA_ ?_ _)); exact BK169.out) hb); have n1_ := Aside0.mk (blk_below (g := gb170) (o := .cells #[.int .u64 t174, .int .u64 t175, .int .u64 t176] 24 (0, 0)) (by (with_reducible repeat (first | refine bN_ ?_ _ | refine bD_ ?_ | refine bA_ ?_ _)); exact BK170.out) hb); have n2_ := Aside0.mk (below_step (by repeat (first | (with_reducible first | exact HB.out | apply bX_ | apply bW_ | apply bY_ | refine bS_ ?_ GE169.out | refine bS_ ?_ GE170.out) | exact HB.out)) hb); clear BK169; clear BK170; clear HB; have BK169 := n0_; have BK170 := n1_; have HB := n2_; clear n0_ n1_ n2_; (try clear hb); (try clear hb2); (try clear hk); (try clear hi); have hcz74_0 : w73.cell? ⟨gb169, 0, none⟩ = some (.int .u64 t171) := (bC_ BK169.out 0).trans rfl; have hcz74_1 : w73.cell? ⟨gb169, 1, none⟩ = some (.int .u64 t172) := (bC_ BK169.out 1).trans rfl; have hcz74_2 : w73.cell? ⟨gb169, 2, none⟩ = some (.int .u64 t173) := (bC_ BK169.out 2).trans rfl; have hfz74_0 := bF_ BK169.out 0; have hfz74_1 := bF_ BK169.out 1; have hfz74_2 := bF_ BK169.out 2; have hcz75_0 : w73.cell? ⟨gb170, 0, none⟩ = some (.int .u64 t174) := (bC_ BK170.out 0).trans rfl; have hcz75_1 : w73.cell? ⟨gb170, 1, none⟩ = some (.int .u64 t175) := (bC_ BK170.out 1).trans rfl; have hcz75_2 : w73.cell? ⟨gb170, 2, none⟩ = some (.int .u64 t176) := (bC_ BK170.out 2).trans rfl; have hfz75_0 := bF_ BK170.out 0; have hfz75_1 := bF_ BK170.out 1; have hfz75_2 := bF_ BK170.out 2))
              go_ret
              exact ⟨by first | rfl | (simp [errW_none, errW_some] <;> rfl) | (simp only [← hji49]; first | rfl | (simp [errW_none, errW_some] <;> rfl)) | (simp [*, errW_none, errW_some] <;> rfl), by repeat (first | (with_reducible first | exact HB.out | apply bX_ | apply bW_ | apply bY_ | refine bS_ ?_ GE169.out | refine bS_ ?_ GE170.out) | exact HB.out)⟩
          · replace c48 := Bool.eq_false_iff.mpr c48
            subst c48
            have H1 : (some false) = some r := by rw [if_neg (show ¬ (false = true) by decide)] at H; exact H
            clear H
            have H := H1
            clear H1
            obtain rfl := Option.some.inj H
            go_enter Tryd.func20, Tryd.ntmps20
            try go_wp2_with (first | ((with_reducible refine gate_dst (N := 2) rfl ?_); (try (refine gate_guard (by rfl) ?_; dsimp only)); refine box_event ?hg (N := 2) ?hd (cs := #[.int .u64 a0_0, .int .u64 a0_1, .int .u64 a0_2]) (t := 24) ?hr ?_; (case hd => rfl); (case hg => rfl); (case hr => first | (go_simp; done) | (go_simp; rfl)); intro gb169 hg w76 hbox hb; have n0_ := Aside0.mk (below_step (by repeat (first | (with_reducible first | exact HB.out | apply bX_ | apply bW_ | apply bY_) | exact HB.out)) hb); have n1_ := Aside0.mk (hbox); have n2_ := Aside0.mk ((by rw [hg]; exact (below_size (by repeat (first | (with_reducible first | exact HB.out | apply bX_ | apply bW_ | apply bY_) | exact HB.out))) : w.heap.size ≤ gb169)); have n3_ := Aside0.mk ((by rw [hg]; exact (below_size (by repeat (first | (with_reducible first | exact HB.out | apply bX_ | apply bW_ | apply bY_) | exact HB.out))) : w.heap.size ≤ gb169)); clear HB; have HB := n0_; have BK169 := n1_; have GW169 := n2_; have GE169 := n3_; clear n0_ n1_ n2_ n3_; clear hb hbox hg) | ((with_reducible refine gate_dst (N := 3) rfl ?_); (try (refine gate_guard (by rfl) ?_; dsimp only)); refine box_event ?hg (N := 3) ?hd (cs := #[.int .u64 a1_0, .int .u64 a1_1, .int .u64 a1_2]) (t := 24) ?hr ?_; (case hd => rfl); (case hg => rfl); (case hr => first | (go_simp; done) | (go_simp; rfl)); intro gb170 hg w77 hbox hb; have n0_ := Aside0.mk (blk_below (g := gb169) (o := .cells #[.int .u64 a0_0, .int .u64 a0_1, .int .u64 a0_2] 24 (0, 0)) (by (with_reducible repeat (first | refine bN_ ?_ _ | refine bD_ ?_ | refine bA_ ?_ _)); exact BK169.out) hb); have n1_ := Aside0.mk (below_step (by repeat (first | (with_reducible first | exact HB.out | apply bX_ | apply bW_ | apply bY_ | refine bS_ ?_ GE169.out) | exact HB.out)) hb); have n2_ := Aside0.mk (hbox); have n3_ := Aside0.mk ((by rw [hg]; exact (below_size (by repeat (first | (with_reducible first | exact HB.out | apply bX_ | apply bW_ | apply bY_ | refine bS_ ?_ GE169.out) | exact HB.out))) : w.heap.size ≤ gb170)); have n4_ := Aside0.mk ((by rw [hg]; exact (below_size (by repeat (first | (with_reducible first | exact HB.out | apply bX_ | apply bW_ | apply bY_ | refine bS_ ?_ GE169.out) | exact HB.out))) : w.heap.size ≤ gb170)); have n5_ := Aside0.mk ((by rw [hg]; exact Nat.ne_of_lt (blk_lt (g := gb169) (o := .cells #[.int .u64 a0_0, .int .u64 a0_1, .int .u64 a0_2] 24 (0, 0)) (by (with_reducible repeat (first | refine bN_ ?_ _ | refine bD_ ?_ | refine bA_ ?_ _)); exact BK169.out)) : gb169 ≠ gb170)); have n6_ := Aside0.mk ((by rw [hg]; exact Nat.ne_of_gt (blk_lt (g := gb169) (o := .cells #[.int .u64 a0_0, .int .u64 a0_1, .int .u64 a0_2] 24 (0, 0)) (by (with_reducible repeat (first | refine bN_ ?_ _ | refine bD_ ?_ | refine bA_ ?_ _)); exact BK169.out)) : gb170 ≠ gb169)); clear BK169; clear HB; have BK169 := n0_; have HB := n1_; have BK170 := n2_; have GW170 := n3_; have GE170 := n4_; have NB169_170 := n5_; have NB170_169 := n6_; clear n0_ n1_ n2_ n3_ n4_ n5_ n6_; clear hb hbox hg))
            have n0_ := Aside0.mk (bD_ BK169.out)
            have n1_ := Aside0.mk (bD_ BK170.out)
            have n2_ := Aside0.mk (bY_ HB.out)
            clear BK169
            clear BK170
            clear HB
            have BK169 := n0_
            have BK170 := n1_
            have HB := n2_
            clear n0_ n1_ n2_
            refine start_ (n := 6) (S := fun w' => w'.cell? ⟨gb169, 0, none⟩ = some (.int .u64 a0_0) ∧ w'.cell? ⟨gb169, 1, none⟩ = some (.int .u64 a0_1) ∧ w'.cell? ⟨gb169, 2, none⟩ = some (.int .u64 a0_2) ∧ w'.cell? ⟨gb170, 0, none⟩ = some (.int .u64 a1_0) ∧ w'.cell? ⟨gb170, 1, none⟩ = some (.int .u64 a1_1) ∧ w'.cell? ⟨gb170, 2, none⟩ = some (.int .u64 a1_2)) (ds := [4, 5]) #[false, false, false, false, false, false] (by kernel_rfl) rfl rfl ⟨(bC_ BK169.out 0).trans rfl, (bC_ BK169.out 1).trans rfl, (bC_ BK169.out 2).trans rfl, (bC_ BK170.out 0).trans rfl, (bC_ BK170.out 1).trans rfl, (bC_ BK170.out 2).trans rfl⟩ (fun hHeld => ?_)
            generalize w77.drew = w78 at BK169 BK170 HB hHeld ⊢
            refine take_ (i := 0) (N := some 5) (v := ?_) (a' := ?_) #[true, false, false, false, false, false] rfl rfl (by kernel_rfl) (fun _ _ _ h => h) (Or.inl ⟨by rfl, ?_⟩) hHeld ?_ ?_
            rotate_left
            · rintro w' ⟨s0, s1, s2, s3, s4, s5⟩
              go_simp
              with_reducible rfl
            rotate_left
            · simp only [Act.put, List.setIfInBounds_toArray, List.set_cons_zero, List.set_cons_succ, i64_w, i32_w]
              rfl
            refine take_ (i := 2) (N := some 7) (v := ?_) (a' := ?_) #[true, false, true, false, false, false] rfl rfl (by kernel_rfl) (fun _ _ _ h => h) (Or.inl ⟨by rfl, ?_⟩) hHeld ?_ ?_
            rotate_left
            · rintro w' ⟨s0, s1, s2, s3, s4, s5⟩
              go_simp
              with_reducible rfl
            rotate_left
            · simp only [Act.put, List.setIfInBounds_toArray, List.set_cons_zero, List.set_cons_succ, i64_w, i32_w]
              rfl
            refine one_ (i := 1) (N := some 6) #[true, true, true, false, false, false] rfl rfl (by kernel_rfl) (by decide) (fun K hK => ?_)
            refine goes_ Tryd.func21 (by kernel_rfl) rfl #[.agg #[.int .u64 a0_0, .int .u64 a0_1, .int .u64 a0_2]] (by rfl) rfl rfl (by (try simp only [List.map_toArray, List.map_cons, List.map_nil]); first | done | rfl | (simp only [List.length_drop, List.length_take]; rfl)) ?_
            with_reducible refine (sundialref22_seen.calls a0_0 a0_1 a0_2 t171 t172 t173 _ A3.out).mono ?_
            rintro e w79 ⟨rfl, hb⟩
            refine ⟨_, rfl, ?_⟩
            have n0_ := Aside0.mk (blk_below (g := gb169) (o := .cells #[.int .u64 a0_0, .int .u64 a0_1, .int .u64 a0_2] 24 (0, 0)) (by (with_reducible repeat (first | refine bN_ ?_ _ | refine bD_ ?_ | refine bA_ ?_ _)); exact BK169.out) hb)
            have n1_ := Aside0.mk (blk_below (g := gb170) (o := .cells #[.int .u64 a1_0, .int .u64 a1_1, .int .u64 a1_2] 24 (0, 0)) (by (with_reducible repeat (first | refine bN_ ?_ _ | refine bD_ ?_ | refine bA_ ?_ _)); exact BK170.out) hb)
            have n2_ := Aside0.mk (below_step (by repeat (first | (with_reducible first | exact HB.out | apply bX_ | apply bW_ | apply bY_ | refine bS_ ?_ GE169.out | refine bS_ ?_ GE170.out) | exact HB.out)) hb)
            clear BK169
            clear BK170
            clear HB
            have BK169 := n0_
            have BK170 := n1_
            have HB := n2_
            clear n0_ n1_ n2_
            (try clear hb)
            (try clear hb2)
            (try clear hk)
            (try clear hi)
            refine hK.out _ _ ⟨(bC_ BK169.out 0).trans rfl, (bC_ BK169.out 1).trans rfl, (bC_ BK169.out 2).trans rfl, (bC_ BK170.out 0).trans rfl, (bC_ BK170.out 1).trans rfl, (bC_ BK170.out 2).trans rfl⟩ (fun hHeld => ?_)
            clear hK K
            refine norm_ (a' := ?_) ?_ ?_
            rotate_left
            · show Act.put _ (some 6) _ = _
              simp only [Act.put, List.setIfInBounds_toArray, List.set_cons_zero, List.set_cons_succ, i64_w, i32_w]
              rfl
            refine one_ (i := 3) (N := some 8) #[true, true, true, true, false, false] rfl rfl (by kernel_rfl) (by decide) (fun K hK => ?_)
            refine goes_ Tryd.func21 (by kernel_rfl) rfl #[.agg #[.int .u64 a1_0, .int .u64 a1_1, .int .u64 a1_2]] (by rfl) rfl rfl (by (try simp only [List.map_toArray, List.map_cons, List.map_nil]); first | done | rfl | (simp only [List.length_drop, List.length_take]; rfl)) ?_
            with_reducible refine (sundialref22_seen.calls a1_0 a1_1 a1_2 t174 t175 t176 _ A4.out).mono ?_
            rintro e w80 ⟨rfl, hb⟩
            refine ⟨_, rfl, ?_⟩
            have n0_ := Aside0.mk (blk_below (g := gb169) (o := .cells #[.int .u64 a0_0, .int .u64 a0_1, .int .u64 a0_2] 24 (0, 0)) (by (with_reducible repeat (first | refine bN_ ?_ _ | refine bD_ ?_ | refine bA_ ?_ _)); exact BK169.out) hb)
            have n1_ := Aside0.mk (blk_below (g := gb170) (o := .cells #[.int .u64 a1_0, .int .u64 a1_1, .int .u64 a1_2] 24 (0, 0)) (by (with_reducible repeat (first | refine bN_ ?_ _ | refine bD_ ?_ | refine bA_ ?_ _)); exact BK170.out) hb)
            have n2_ := Aside0.mk (below_step (by repeat (first | (with_reducible first | exact HB.out | apply bX_ | apply bW_ | apply bY_ | refine bS_ ?_ GE169.out | refine bS_ ?_ GE170.out) | exact HB.out)) hb)
            clear BK169
            clear BK170
            clear HB
            have BK169 := n0_
            have BK170 := n1_
            have HB := n2_
            clear n0_ n1_ n2_
            (try clear hb)
            (try clear hb2)
            (try clear hk)
            (try clear hi)
            refine hK.out _ _ ⟨(bC_ BK169.out 0).trans rfl, (bC_ BK169.out 1).trans rfl, (bC_ BK169.out 2).trans rfl, (bC_ BK170.out 0).trans rfl, (bC_ BK170.out 1).trans rfl, (bC_ BK170.out 2).trans rfl⟩ (fun hHeld => ?_)
            clear hK K
            refine norm_ (a' := ?_) ?_ ?_
            rotate_left
            · show Act.put _ (some 8) _ = _
              simp only [Act.put, List.setIfInBounds_toArray, List.set_cons_zero, List.set_cons_succ, i64_w, i32_w]
              rfl
            refine last_ (i := 4) (N := none) #[true, true, true, true, true, false] rfl rfl (by kernel_rfl) (by decide) (fun K hK => ?_)
            have hs81 : w80.cell? ⟨gb169, 0, none⟩ = some (.int .u64 a0_0) := (bC_ BK169.out 0).trans rfl
            have hfs81 := bF_ BK169.out 0
            have hns81_1 := NB170_169.out
            have hms81_1 := NB169_170.out
            have hs82 : w80.cell? ⟨gb169, 1, none⟩ = some (.int .u64 a0_1) := (bC_ BK169.out 1).trans rfl
            have hfs82 := bF_ BK169.out 1
            have hns82_1 := NB170_169.out
            have hms82_1 := NB169_170.out
            have hs83 : w80.cell? ⟨gb169, 2, none⟩ = some (.int .u64 a0_2) := (bC_ BK169.out 2).trans rfl
            have hfs83 := bF_ BK169.out 2
            have hns83_1 := NB170_169.out
            have hms83_1 := NB169_170.out
            refine skip_ (w1 := ?_) (by rfl) rfl ?_ ?_
            rotate_left
            · go_simp
              rfl
            refine hK.out _ _ ?_
            clear hK K
            refine last_ (i := 5) (N := none) #[true, true, true, true, true, true] rfl rfl (by kernel_rfl) (by decide) (fun K hK => ?_)
            have hs84 : w80.cell? ⟨gb170, 0, none⟩ = some (.int .u64 a1_0) := (bC_ BK170.out 0).trans rfl
            have hfs84 := bF_ BK170.out 0
            have hns84_0 := NB169_170.out
            have hms84_0 := NB170_169.out
            have hs85 : w80.cell? ⟨gb170, 1, none⟩ = some (.int .u64 a1_1) := (bC_ BK170.out 1).trans rfl
            have hfs85 := bF_ BK170.out 1
            have hns85_0 := NB169_170.out
            have hms85_0 := NB170_169.out
            have hs86 : w80.cell? ⟨gb170, 2, none⟩ = some (.int .u64 a1_2) := (bC_ BK170.out 2).trans rfl
            have hfs86 := bF_ BK170.out 2
            have hns86_0 := NB169_170.out
            have hms86_0 := NB170_169.out
            refine skip_ (w1 := ?_) (by rfl) rfl ?_ ?_
            rotate_left
            · go_simp
              rfl
            refine hK.out _ _ ?_
            clear hK K
            refine done_ (by kernel_rfl) ?_
            have hnb87 := NB169_170.out
            have hnc87 := NB170_169.out
            have hcz88_0 : w80.cell? ⟨gb169, 0, none⟩ = some (.int .u64 a0_0) := (bC_ BK169.out 0).trans rfl
            have hcz88_1 : w80.cell? ⟨gb169, 1, none⟩ = some (.int .u64 a0_1) := (bC_ BK169.out 1).trans rfl
            have hcz88_2 : w80.cell? ⟨gb169, 2, none⟩ = some (.int .u64 a0_2) := (bC_ BK169.out 2).trans rfl
            have hfz88_0 := bF_ BK169.out 0
            have hfz88_1 := bF_ BK169.out 1
            have hfz88_2 := bF_ BK169.out 2
            try go_wp2_with (first | ((with_reducible refine gate_callee (f := 22) rfl ?_); refine goesL_ (some 10) rfl rfl Tryd.func22 (by kernel_rfl) rfl #[.agg #[.int .u64 t171, .int .u64 t172, .int .u64 t173]] rfl (by (try simp only [List.map_toArray, List.map_cons, List.map_nil]); first | done | rfl | (simp only [List.length_drop, List.length_take]; rfl)) ?_; (with_reducible refine (sundialref22_empty.calls t171 t172 t173 false _ A5.out).mono ?_); rintro e w89 ⟨rfl, hb⟩; refine ⟨_, rfl, ?_⟩; have n0_ := Aside0.mk (blk_below (g := gb169) (o := .cells #[.int .u64 t171, .int .u64 t172, .int .u64 t173] 24 (0, 0)) (by (with_reducible repeat (first | refine bN_ ?_ _ | refine bD_ ?_ | refine bA_ ?_ _)); refine blk_far ?_ NB169_170.out _; (with_reducible repeat (first | refine bN_ ?_ _ | refine bD_ ?_ | refine bA_ ?_ _)); refine blk_far ?_ NB169_170.out _; (with_reducible repeat (first | refine bN_ ?_ _ | refine bD_ ?_ | refine bA_ ?_ _)); refine blk_far ?_ NB169_170.out _; (with_reducible repeat (first | refine bN_ ?_ _ | refine bD_ ?_ | refine bA_ ?_ _)); refine blk_put (cs := #[.int .u64 t171, .int .u64 t172, .int .u64 a0_2]) ?_ 2 _ rfl; (with_reducible repeat (first | refine bN_ ?_ _ | refine bD_ ?_ | refine bA_ ?_ _)); refine blk_put (cs := #[.int .u64 t171, .int .u64 a0_1, .int .u64 a0_2]) ?_ 1 _ rfl; (with_reducible repeat (first | refine bN_ ?_ _ | refine bD_ ?_ | refine bA_ ?_ _)); refine blk_put (cs := #[.int .u64 a0_0, .int .u64 a0_1, .int .u64 a0_2]) ?_ 0 _ rfl; (with_reducible repeat (first | refine bN_ ?_ _ | refine bD_ ?_ | refine bA_ ?_ _)); exact BK169.out) hb); have n1_ := Aside0.mk (blk_below (g := gb170) (o := .cells #[.int .u64 t174, .int .u64 t175, .int .u64 t176] 24 (0, 0)) (by (with_reducible repeat (first | refine bN_ ?_ _ | refine bD_ ?_ | refine bA_ ?_ _)); refine blk_put (cs := #[.int .u64 t174, .int .u64 t175, .int .u64 a1_2]) ?_ 2 _ rfl; (with_reducible repeat (first | refine bN_ ?_ _ | refine bD_ ?_ | refine bA_ ?_ _)); refine blk_put (cs := #[.int .u64 t174, .int .u64 a1_1, .int .u64 a1_2]) ?_ 1 _ rfl; (with_reducible repeat (first | refine bN_ ?_ _ | refine bD_ ?_ | refine bA_ ?_ _)); refine blk_put (cs := #[.int .u64 a1_0, .int .u64 a1_1, .int .u64 a1_2]) ?_ 0 _ rfl; (with_reducible repeat (first | refine bN_ ?_ _ | refine bD_ ?_ | refine bA_ ?_ _)); refine blk_far ?_ NB170_169.out _; (with_reducible repeat (first | refine bN_ ?_ _ | refine bD_ ?_ | refine bA_ ?_ _)); refine blk_far ?_ NB170_169.out _; (with_reducible repeat (first | refine bN_ ?_ _ | refine bD_ ?_ | refine bA_ ?_ _)); refine blk_far ?_ NB170_169.out _; (with_reducible repeat (first | refine bN_ ?_ _ | refine bD_ ?_ | refine bA_ ?_ _)); exact BK170.out) hb); have n2_ := Aside0.mk (below_step (by repeat (first | (with_reducible first | exact HB.out | apply bX_ | apply bW_ | apply bY_ | refine bS_ ?_ GE169.out | refine bS_ ?_ GE170.out) | exact HB.out)) hb); clear BK169; clear BK170; clear HB; have BK169 := n0_; have BK170 := n1_; have HB := n2_; clear n0_ n1_ n2_; (try clear hb); (try clear hb2); (try clear hk); (try clear hi); have hcz90_0 : w89.cell? ⟨gb170, 0, none⟩ = some (.int .u64 t174) := (bC_ BK170.out 0).trans rfl; have hcz90_1 : w89.cell? ⟨gb170, 1, none⟩ = some (.int .u64 t175) := (bC_ BK170.out 1).trans rfl; have hcz90_2 : w89.cell? ⟨gb170, 2, none⟩ = some (.int .u64 t176) := (bC_ BK170.out 2).trans rfl; have hfz90_0 := bF_ BK170.out 0; have hfz90_1 := bF_ BK170.out 1; have hfz90_2 := bF_ BK170.out 2; have hcz91_0 : w89.cell? ⟨gb169, 0, none⟩ = some (.int .u64 t171) := (bC_ BK169.out 0).trans rfl; have hcz91_1 : w89.cell? ⟨gb169, 1, none⟩ = some (.int .u64 t172) := (bC_ BK169.out 1).trans rfl; have hcz91_2 : w89.cell? ⟨gb169, 2, none⟩ = some (.int .u64 t173) := (bC_ BK169.out 2).trans rfl; have hfz91_0 := bF_ BK169.out 0; have hfz91_1 := bF_ BK169.out 1; have hfz91_2 := bF_ BK169.out 2) | ((with_reducible refine gate_callee (f := 41) rfl ?_); refine goesL_ (some 14) rfl rfl Tryd.func41 (by kernel_rfl) rfl #[.agg #[.int .u64 t174, .int .u64 t175, .int .u64 t176], .int .u64 t172] rfl (by (try simp only [List.map_toArray, List.map_cons, List.map_nil]); first | done | rfl | (simp only [List.length_drop, List.length_take]; rfl)) ?_; (with_reducible refine (sundialref22_Has.calls t174 t175 t176 t172 true _ A21.out).mono ?_); rintro e w92 ⟨rfl, hb⟩; refine ⟨_, rfl, ?_⟩; have n0_ := Aside0.mk (blk_below (g := gb169) (o := .cells #[.int .u64 t171, .int .u64 t172, .int .u64 t173] 24 (0, 0)) (by (with_reducible repeat (first | refine bN_ ?_ _ | refine bD_ ?_ | refine bA_ ?_ _)); exact BK169.out) hb); have n1_ := Aside0.mk (blk_below (g := gb170) (o := .cells #[.int .u64 t174, .int .u64 t175, .int .u64 t176] 24 (0, 0)) (by (with_reducible repeat (first | refine bN_ ?_ _ | refine bD_ ?_ | refine bA_ ?_ _)); exact BK170.out) hb); have n2_ := Aside0.mk (below_step (by repeat (first | (with_reducible first | exact HB.out | apply bX_ | apply bW_ | apply bY_ | refine bS_ ?_ GE169.out | refine bS_ ?_ GE170.out) | exact HB.out)) hb); clear BK169; clear BK170; clear HB; have BK169 := n0_; have BK170 := n1_; have HB := n2_; clear n0_ n1_ n2_; (try clear hb); (try clear hb2); (try clear hk); (try clear hi); have hcz93_0 : w92.cell? ⟨gb170, 0, none⟩ = some (.int .u64 t174) := (bC_ BK170.out 0).trans rfl; have hcz93_1 : w92.cell? ⟨gb170, 1, none⟩ = some (.int .u64 t175) := (bC_ BK170.out 1).trans rfl; have hcz93_2 : w92.cell? ⟨gb170, 2, none⟩ = some (.int .u64 t176) := (bC_ BK170.out 2).trans rfl; have hfz93_0 := bF_ BK170.out 0; have hfz93_1 := bF_ BK170.out 1; have hfz93_2 := bF_ BK170.out 2; have hcz94_0 : w92.cell? ⟨gb169, 0, none⟩ = some (.int .u64 t171) := (bC_ BK169.out 0).trans rfl; have hcz94_1 : w92.cell? ⟨gb169, 1, none⟩ = some (.int .u64 t172) := (bC_ BK169.out 1).trans rfl; have hcz94_2 : w92.cell? ⟨gb169, 2, none⟩ = some (.int .u64 t173) := (bC_ BK169.out 2).trans rfl; have hfz94_0 := bF_ BK169.out 0; have hfz94_1 := bF_ BK169.out 1; have hfz94_2 := bF_ BK169.out 2) | (go_at_call 41; (with_reducible refine (sundialref22_Has.calls t174 t175 t176 t173 true _ A23.out).mono ?_); rintro e w95 ⟨rfl, hb⟩; have n0_ := Aside0.mk (blk_below (g := gb169) (o := .cells #[.int .u64 t171, .int .u64 t172, .int .u64 t173] 24 (0, 0)) (by (with_reducible repeat (first | refine bN_ ?_ _ | refine bD_ ?_ | refine bA_ ?_ _)); exact BK169.out) hb); have n1_ := Aside0.mk (blk_below (g := gb170) (o := .cells #[.int .u64 t174, .int .u64 t175, .int .u64 t176] 24 (0, 0)) (by (with_reducible repeat (first | refine bN_ ?_ _ | refine bD_ ?_ | refine bA_ ?_ _)); exact BK170.out) hb); have n2_ := Aside0.mk (below_step (by repeat (first | (with_reducible first | exact HB.out | apply bX_ | apply bW_ | apply bY_ | refine bS_ ?_ GE169.out | refine bS_ ?_ GE170.out) | exact HB.out)) hb); clear BK169; clear BK170; clear HB; have BK169 := n0_; have BK170 := n1_; have HB := n2_; clear n0_ n1_ n2_; (try clear hb); (try clear hb2); (try clear hk); (try clear hi); have hcz96_0 : w95.cell? ⟨gb169, 0, none⟩ = some (.int .u64 t171) := (bC_ BK169.out 0).trans rfl; have hcz96_1 : w95.cell? ⟨gb169, 1, none⟩ = some (.int .u64 t172) := (bC_ BK169.out 1).trans rfl; have hcz96_2 : w95.cell? ⟨gb169, 2, none⟩ = some (.int .u64 t173) := (bC_ BK169.out 2).trans rfl; have hfz96_0 := bF_ BK169.out 0; have hfz96_1 := bF_ BK169.out 1; have hfz96_2 := bF_ BK169.out 2; have hcz97_0 : w95.cell? ⟨gb170, 0, none⟩ = some (.int .u64 t174) := (bC_ BK170.out 0).trans rfl; have hcz97_1 : w95.cell? ⟨gb170, 1, none⟩ = some (.int .u64 t175) := (bC_ BK170.out 1).trans rfl; have hcz97_2 : w95.cell? ⟨gb170, 2, none⟩ = some (.int .u64 t176) := (bC_ BK170.out 2).trans rfl; have hfz97_0 := bF_ BK170.out 0; have hfz97_1 := bF_ BK170.out 1; have hfz97_2 := bF_ BK170.out 2) | (go_at_call 41; (with_reducible refine (sundialref22_Has.calls t174 t175 t176 (IntKind.u64.wrap (t172 + t171)) false _ A47.out).mono ?_); rintro e w98 ⟨rfl, hb⟩; have n0_ := Aside0.mk (blk_below (g := gb169) (o := .cells #[.int .u64 t171, .int .u64 t172, .int .u64 t173] 24 (0, 0)) (by (with_reducible repeat (first | refine bN_ ?_ _ | refine bD_ ?_ | refine bA_ ?_ _)); exact BK169.out) hb); have n1_ := Aside0.mk (blk_below (g := gb170) (o := .cells #[.int .u64 t174, .int .u64 t175, .int .u64 t176] 24 (0, 0)) (by (with_reducible repeat (first | refine bN_ ?_ _ | refine bD_ ?_ | refine bA_ ?_ _)); exact BK170.out) hb); have n2_ := Aside0.mk (below_step (by repeat (first | (with_reducible first | exact HB.out | apply bX_ | apply bW_ | apply bY_ | refine bS_ ?_ GE169.out | refine bS_ ?_ GE170.out) | exact HB.out)) hb); clear BK169; clear BK170; clear HB; have BK169 := n0_; have BK170 := n1_; have HB := n2_; clear n0_ n1_ n2_; (try clear hb); (try clear hb2); (try clear hk); (try clear hi)))
            go_ret
            exact ⟨by first | rfl | (simp [errW_none, errW_some] <;> rfl) | (simp [*, errW_none, errW_some] <;> rfl), by repeat (first | (with_reducible first | exact HB.out | apply bX_ | apply bW_ | apply bY_ | refine bS_ ?_ GE169.out | refine bS_ ?_ GE170.out) | exact HB.out)⟩
      · replace c24 := Bool.eq_false_iff.mpr c24
        subst c24
        have H1 : (some false) = some r := by rw [if_neg (show ¬ (false = true) by decide)] at H; exact H
        clear H
        have H := H1
        clear H1
        obtain rfl := Option.some.inj H
        go_enter Tryd.func20, Tryd.ntmps20
        try go_wp2_with (first | ((with_reducible refine gate_dst (N := 2) rfl ?_); (try (refine gate_guard (by rfl) ?_; dsimp only)); refine box_event ?hg (N := 2) ?hd (cs := #[.int .u64 a0_0, .int .u64 a0_1, .int .u64 a0_2]) (t := 24) ?hr ?_; (case hd => rfl); (case hg => rfl); (case hr => first | (go_simp; done) | (go_simp; rfl)); intro gb169 hg w99 hbox hb; have n0_ := Aside0.mk (below_step (by repeat (first | (with_reducible first | exact HB.out | apply bX_ | apply bW_ | apply bY_) | exact HB.out)) hb); have n1_ := Aside0.mk (hbox); have n2_ := Aside0.mk ((by rw [hg]; exact (below_size (by repeat (first | (with_reducible first | exact HB.out | apply bX_ | apply bW_ | apply bY_) | exact HB.out))) : w.heap.size ≤ gb169)); have n3_ := Aside0.mk ((by rw [hg]; exact (below_size (by repeat (first | (with_reducible first | exact HB.out | apply bX_ | apply bW_ | apply bY_) | exact HB.out))) : w.heap.size ≤ gb169)); clear HB; have HB := n0_; have BK169 := n1_; have GW169 := n2_; have GE169 := n3_; clear n0_ n1_ n2_ n3_; clear hb hbox hg) | ((with_reducible refine gate_dst (N := 3) rfl ?_); (try (refine gate_guard (by rfl) ?_; dsimp only)); refine box_event ?hg (N := 3) ?hd (cs := #[.int .u64 a1_0, .int .u64 a1_1, .int .u64 a1_2]) (t := 24) ?hr ?_; (case hd => rfl); (case hg => rfl); (case hr => first | (go_simp; done) | (go_simp; rfl)); intro gb170 hg w100 hbox hb; have n0_ := Aside0.mk (blk_below (g := gb169) (o := .cells #[.int .u64 a0_0, .int .u64 a0_1, .int .u64 a0_2] 24 (0, 0)) (by (with_reducible repeat (first | refine bN_ ?_ _ | refine bD_ ?_ | refine bA_ ?_ _)); exact BK169.out) hb); have n1_ := Aside0.mk (below_step (by repeat (first | (with_reducible first | exact HB.out | apply bX_ | apply bW_ | apply bY_ | refine bS_ ?_ GE169.out) | exact HB.out)) hb); have n2_ := Aside0.mk (hbox); have n3_ := Aside0.mk ((by rw [hg]; exact (below_size (by repeat (first | (with_reducible first | exact HB.out | apply bX_ | apply bW_ | apply bY_ | refine bS_ ?_ GE169.out) | exact HB.out))) : w.heap.size ≤ gb170)); have n4_ := Aside0.mk ((by rw [hg]; exact (below_size (by repeat (first | (with_reducible first | exact HB.out | apply bX_ | apply bW_ | apply bY_ | refine bS_ ?_ GE169.out) | exact HB.out))) : w.heap.size ≤ gb170)); have n5_ := Aside0.mk ((by rw [hg]; exact Nat.ne_of_lt (blk_lt (g := gb169) (o := .cells #[.int .u64 a0_0, .int .u64 a0_1, .int .u64 a0_2] 24 (0, 0)) (by (with_reducible repeat (first | refine bN_ ?_ _ | refine bD_ ?_ | refine bA_ ?_ _)); exact BK169.out)) : gb169 ≠ gb170)); have n6_ := Aside0.mk ((by rw [hg]; exact Nat.ne_of_gt (blk_lt (g := gb169) (o := .cells #[.int .u64 a0_0, .int .u64 a0_1, .int .u64 a0_2] 24 (0, 0)) (by (with_reducible repeat (first | refine bN_ ?_ _ | refine bD_ ?_ | refine bA_ ?_ _)); exact BK169.out)) : gb170 ≠ gb169)); clear BK169; clear HB; have BK169 := n0_; have HB := n1_; have BK170 := n2_; have GW170 := n3_; have GE170 := n4_; have NB169_170 := n5_; have NB170_169 := n6_; clear n0_ n1_ n2_ n3_ n4_ n5_ n6_; clear hb hbox hg))
        have n0_ := Aside0.mk (bD_ BK169.out)
        have n1_ := Aside0.mk (bD_ BK170.out)
        have n2_ := Aside0.mk (bY_ HB.out)
        clear BK169
        clear BK170
        clear HB
        have BK169 := n0_
        have BK170 := n1_
        have HB := n2_
        clear n0_ n1_ n2_
        refine start_ (n := 6) (S := fun w' => w'.cell? ⟨gb169, 0, none⟩ = some (.int .u64 a0_0) ∧ w'.cell? ⟨gb169, 1, none⟩ = some (.int .u64 a0_1) ∧ w'.cell? ⟨gb169, 2, none⟩ = some (.int .u64 a0_2) ∧ w'.cell? ⟨gb170, 0, none⟩ = some (.int .u64 a1_0) ∧ w'.cell? ⟨gb170, 1, none⟩ = some (.int .u64 a1_1) ∧ w'.cell? ⟨gb170, 2, none⟩ = some (.int .u64 a1_2)) (ds := [4, 5]) #[false, false, false, false, false, false] (by kernel_rfl) rfl rfl ⟨(bC_ BK169.out 0).trans rfl, (bC_ BK169.out 1).trans rfl, (bC_ BK169.out 2).trans rfl, (bC_ BK170.out 0).trans rfl, (bC_ BK170.out 1).trans rfl, (bC_ BK170.out 2).trans rfl⟩ (fun hHeld => ?_)
        generalize w100.drew = w101 at BK169 BK170 HB hHeld ⊢
        refine take_ (i := 0) (N := some 5) (v := ?_) (a' := ?_) #[true, false, false, false, false, false] rfl rfl (by kernel_rfl) (fun _ _ _ h => h) (Or.inl ⟨by rfl, ?_⟩) hHeld ?_ ?_
        rotate_left
        · rintro w' ⟨s0, s1, s2, s3, s4, s5⟩
          go_simp
          with_reducible rfl
        rotate_left
        · simp only [Act.put, List.setIfInBounds_toArray, List.set_cons_zero, List.set_cons_succ, i64_w, i32_w]
          rfl
        refine take_ (i := 2) (N := some 7) (v := ?_) (a' := ?_) #[true, false, true, false, false, false] rfl rfl (by kernel_rfl) (fun _ _ _ h => h) (Or.inl ⟨by rfl, ?_⟩) hHeld ?_ ?_
        rotate_left
        · rintro w' ⟨s0, s1, s2, s3, s4, s5⟩
          go_simp
          with_reducible rfl
        rotate_left
        · simp only [Act.put, List.setIfInBounds_toArray, List.set_cons_zero, List.set_cons_succ, i64_w, i32_w]
          rfl
        refine one_ (i := 1) (N := some 6) #[true, true, true, false, false, false] rfl rfl (by kernel_rfl) (by decide) (fun K hK => ?_)
        refine goes_ Tryd.func21 (by kernel_rfl) rfl #[.agg #[.int .u64 a0_0, .int .u64 a0_1, .int .u64 a0_2]] (by rfl) rfl rfl (by (try simp only [List.map_toArray, List.map_cons, List.map_nil]); first | done | rfl | (simp only [List.length_drop, List.length_take]; rfl)) ?_
        with_reducible refine (sundialref22_seen.calls a0_0 a0_1 a0_2 t171 t172 t173 _ A3.out).mono ?_
        rintro e w102 ⟨rfl, hb⟩
        refine ⟨_, rfl, ?_⟩
        have n0_ := Aside0.mk (blk_below (g := gb169) (o := .cells #[.int .u64 a0_0, .int .u64 a0_1, .int .u64 a0_2] 24 (0, 0)) (by (with_reducible repeat (first | refine bN_ ?_ _ | refine bD_ ?_ | refine bA_ ?_ _)); exact BK169.out) hb)
        have n1_ := Aside0.mk (blk_below (g := gb170) (o := .cells #[.int .u64 a1_0, .int .u64 a1_1, .int .u64 a1_2] 24 (0, 0)) (by (with_reducible repeat (first | refine bN_ ?_ _ | refine bD_ ?_ | refine bA_ ?_ _)); exact BK170.out) hb)
        have n2_ := Aside0.mk (below_step (by repeat (first | (with_reducible first | exact HB.out | apply bX_ | apply bW_ | apply bY_ | refine bS_ ?_ GE169.out | refine bS_ ?_ GE170.out) | exact HB.out)) hb)
        clear BK169
        clear BK170
        clear HB
        have BK169 := n0_
        have BK170 := n1_
        have HB := n2_
        clear n0_ n1_ n2_
        (try clear hb)
        (try clear hb2)
        (try clear hk)
        (try clear hi)
        refine hK.out _ _ ⟨(bC_ BK169.out 0).trans rfl, (bC_ BK169.out 1).trans rfl, (bC_ BK169.out 2).trans rfl, (bC_ BK170.out 0).trans rfl, (bC_ BK170.out 1).trans rfl, (bC_ BK170.out 2).trans rfl⟩ (fun hHeld => ?_)
        clear hK K
        refine norm_ (a' := ?_) ?_ ?_
        rotate_left
        · show Act.put _ (some 6) _ = _
          simp only [Act.put, List.setIfInBounds_toArray, List.set_cons_zero, List.set_cons_succ, i64_w, i32_w]
          rfl
        refine one_ (i := 3) (N := some 8) #[true, true, true, true, false, false] rfl rfl (by kernel_rfl) (by decide) (fun K hK => ?_)
        refine goes_ Tryd.func21 (by kernel_rfl) rfl #[.agg #[.int .u64 a1_0, .int .u64 a1_1, .int .u64 a1_2]] (by rfl) rfl rfl (by (try simp only [List.map_toArray, List.map_cons, List.map_nil]); first | done | rfl | (simp only [List.length_drop, List.length_take]; rfl)) ?_
        with_reducible refine (sundialref22_seen.calls a1_0 a1_1 a1_2 t174 t175 t176 _ A4.out).mono ?_
        rintro e w103 ⟨rfl, hb⟩
        refine ⟨_, rfl, ?_⟩
        have n0_ := Aside0.mk (blk_below (g := gb169) (o := .cells #[.int .u64 a0_0, .int .u64 a0_1, .int .u64 a0_2] 24 (0, 0)) (by (with_reducible repeat (first | refine bN_ ?_ _ | refine bD_ ?_ | refine bA_ ?_ _)); exact BK169.out) hb)
        have n1_ := Aside0.mk (blk_below (g := gb170) (o := .cells #[.int .u64 a1_0, .int .u64 a1_1, .int .u64 a1_2] 24 (0, 0)) (by (with_reducible repeat (first | refine bN_ ?_ _ | refine bD_ ?_ | refine bA_ ?_ _)); exact BK170.out) hb)
        have n2_ := Aside0.mk (below_step (by repeat (first | (with_reducible first | exact HB.out | apply bX_ | apply bW_ | apply bY_ | refine bS_ ?_ GE169.out | refine bS_ ?_ GE170.out) | exact HB.out)) hb)
        clear BK169
        clear BK170
        clear HB
        have BK169 := n0_
        have BK170 := n1_
        have HB := n2_
        clear n0_ n1_ n2_
        (try clear hb)
        (try clear hb2)
        (try clear hk)
        (try clear hi)
        refine hK.out _ _ ⟨(bC_ BK169.out 0).trans rfl, (bC_ BK169.out 1).trans rfl, (bC_ BK169.out 2).trans rfl, (bC_ BK170.out 0).trans rfl, (bC_ BK170.out 1).trans rfl, (bC_ BK170.out 2).trans rfl⟩ (fun hHeld => ?_)
        clear hK K
        refine norm_ (a' := ?_) ?_ ?_
        rotate_left
        · show Act.put _ (some 8) _ = _
          simp only [Act.put, List.setIfInBounds_toArray, List.set_cons_zero, List.set_cons_succ, i64_w, i32_w]
          rfl
        refine last_ (i := 4) (N := none) #[true, true, true, true, true, false] rfl rfl (by kernel_rfl) (by decide) (fun K hK => ?_)
        have hs104 : w103.cell? ⟨gb169, 0, none⟩ = some (.int .u64 a0_0) := (bC_ BK169.out 0).trans rfl
        have hfs104 := bF_ BK169.out 0
        have hns104_1 := NB170_169.out
        have hms104_1 := NB169_170.out
        have hs105 : w103.cell? ⟨gb169, 1, none⟩ = some (.int .u64 a0_1) := (bC_ BK169.out 1).trans rfl
        have hfs105 := bF_ BK169.out 1
        have hns105_1 := NB170_169.out
        have hms105_1 := NB169_170.out
        have hs106 : w103.cell? ⟨gb169, 2, none⟩ = some (.int .u64 a0_2) := (bC_ BK169.out 2).trans rfl
        have hfs106 := bF_ BK169.out 2
        have hns106_1 := NB170_169.out
        have hms106_1 := NB169_170.out
        refine skip_ (w1 := ?_) (by rfl) rfl ?_ ?_
        rotate_left
        · go_simp
          rfl
        refine hK.out _ _ ?_
        clear hK K
        refine last_ (i := 5) (N := none) #[true, true, true, true, true, true] rfl rfl (by kernel_rfl) (by decide) (fun K hK => ?_)
        have hs107 : w103.cell? ⟨gb170, 0, none⟩ = some (.int .u64 a1_0) := (bC_ BK170.out 0).trans rfl
        have hfs107 := bF_ BK170.out 0
        have hns107_0 := NB169_170.out
        have hms107_0 := NB170_169.out
        have hs108 : w103.cell? ⟨gb170, 1, none⟩ = some (.int .u64 a1_1) := (bC_ BK170.out 1).trans rfl
        have hfs108 := bF_ BK170.out 1
        have hns108_0 := NB169_170.out
        have hms108_0 := NB170_169.out
        have hs109 : w103.cell? ⟨gb170, 2, none⟩ = some (.int .u64 a1_2) := (bC_ BK170.out 2).trans rfl
        have hfs109 := bF_ BK170.out 2
        have hns109_0 := NB169_170.out
        have hms109_0 := NB170_169.out
        refine skip_ (w1 := ?_) (by rfl) rfl ?_ ?_
        rotate_left
        · go_simp
          rfl
        refine hK.out _ _ ?_
        clear hK K
        refine done_ (by kernel_rfl) ?_
        have hnb110 := NB169_170.out
        have hnc110 := NB170_169.out
        have hcz111_0 : w103.cell? ⟨gb169, 0, none⟩ = some (.int .u64 a0_0) := (bC_ BK169.out 0).trans rfl
        have hcz111_1 : w103.cell? ⟨gb169, 1, none⟩ = some (.int .u64 a0_1) := (bC_ BK169.out 1).trans rfl
        have hcz111_2 : w103.cell? ⟨gb169, 2, none⟩ = some (.int .u64 a0_2) := (bC_ BK169.out 2).trans rfl
        have hfz111_0 := bF_ BK169.out 0
        have hfz111_1 := bF_ BK169.out 1
        have hfz111_2 := bF_ BK169.out 2
        try go_wp2_with (first | ((with_reducible refine gate_callee (f := 22) rfl ?_); refine goesL_ (some 10) rfl rfl Tryd.func22 (by kernel_rfl) rfl #[.agg #[.int .u64 t171, .int .u64 t172, .int .u64 t173]] rfl (by (try simp only [List.map_toArray, List.map_cons, List.map_nil]); first | done | rfl | (simp only [List.length_drop, List.length_take]; rfl)) ?_; (with_reducible refine (sundialref22_empty.calls t171 t172 t173 false _ A5.out).mono ?_); rintro e w112 ⟨rfl, hb⟩; refine ⟨_, rfl, ?_⟩; have n0_ := Aside0.mk (blk_below (g := gb169) (o := .cells #[.int .u64 t171, .int .u64 t172, .int .u64 t173] 24 (0, 0)) (by (with_reducible repeat (first | refine bN_ ?_ _ | refine bD_ ?_ | refine bA_ ?_ _)); refine blk_far ?_ NB169_170.out _; (with_reducible repeat (first | refine bN_ ?_ _ | refine bD_ ?_ | refine bA_ ?_ _)); refine blk_far ?_ NB169_170.out _; (with_reducible repeat (first | refine bN_ ?_ _ | refine bD_ ?_ | refine bA_ ?_ _)); refine blk_far ?_ NB169_170.out _; (with_reducible repeat (first | refine bN_ ?_ _ | refine bD_ ?_ | refine bA_ ?_ _)); refine blk_put (cs := #[.int .u64 t171, .int .u64 t172, .int .u64 a0_2]) ?_ 2 _ rfl; (with_reducible repeat (first | refine bN_ ?_ _ | refine bD_ ?_ | refine bA_ ?_ _)); refine blk_put (cs := #[.int .u64 t171, .int .u64 a0_1, .int .u64 a0_2]) ?_ 1 _ rfl; (with_reducible repeat (first | refine bN_ ?_ _ | refine bD_ ?_ | refine bA_ ?_ _)); refine blk_put (cs := #[.int .u64 a0_0, .int .u64 a0_1, .int .u64 a0_2]) ?_ 0 _ rfl; (with_reducible repeat (first | refine bN_ ?_ _ | refine bD_ ?_ | refine bA_ ?_ _)); exact BK169.out) hb); have n1_ := Aside0.mk (blk_below (g := gb170) (o := .cells #[.int .u64 t174, .int .u64 t175, .int .u64 t176] 24 (0, 0)) (by (with_reducible repeat (first | refine bN_ ?_ _ | refine bD_ ?_ | refine bA_ ?_ _)); refine blk_put (cs := #[.int .u64 t174, .int .u64 t175, .int .u64 a1_2]) ?_ 2 _ rfl; (with_reducible repeat (first | refine bN_ ?_ _ | refine bD_ ?_ | refine bA_ ?_ _)); refine blk_put (cs := #[.int .u64 t174, .int .u64 a1_1, .int .u64 a1_2]) ?_ 1 _ rfl; (with_reducible repeat (first | refine bN_ ?_ _ | refine bD_ ?_ | refine bA_ ?_ _)); refine blk_put (cs := #[.int .u64 a1_0, .int .u64 a1_1, .int .u64 a1_2]) ?_ 0 _ rfl; (with_reducible repeat (first | refine bN_ ?_ _ | refine bD_ ?_ | refine bA_ ?_ _)); refine blk_far ?_ NB170_169.out _; (with_reducible repeat (first | refine bN_ ?_ _ | refine bD_ ?_ | refine bA_ ?_ _)); refine blk_far ?_ NB170_169.out _; (with_reducible repeat (first | refine bN_ ?_ _ | refine bD_ ?_ | refine bA_ ?_ _)); refine blk_far ?_ NB170_169.out _; (with_reducible repeat (first | refine bN_ ?_ _ | refine bD_ ?_ | refine bA_ ?_ _)); exact BK170.out) hb); have n2_ := Aside0.mk (below_step (by repeat (first | (with_reducible first | exact HB.out | apply bX_ | apply bW_ | apply bY_ | refine bS_ ?_ GE169.out | refine bS_ ?_ GE170.out) | exact HB.out)) hb); clear BK169; clear BK170; clear HB; have BK169 := n0_; have BK170 := n1_; have HB := n2_; clear n0_ n1_ n2_; (try clear hb); (try clear hb2); (try clear hk); (try clear hi); have hcz113_0 : w112.cell? ⟨gb170, 0, none⟩ = some (.int .u64 t174) := (bC_ BK170.out 0).trans rfl; have hcz113_1 : w112.cell? ⟨gb170, 1, none⟩ = some (.int .u64 t175) := (bC_ BK170.out 1).trans rfl; have hcz113_2 : w112.cell? ⟨gb170, 2, none⟩ = some (.int .u64 t176) := (bC_ BK170.out 2).trans rfl; have hfz113_0 := bF_ BK170.out 0; have hfz113_1 := bF_ BK170.out 1; have hfz113_2 := bF_ BK170.out 2; have hcz114_0 : w112.cell? ⟨gb169, 0, none⟩ = some (.int .u64 t171) := (bC_ BK169.out 0).trans rfl; have hcz114_1 : w112.cell? ⟨gb169, 1, none⟩ = some (.int .u64 t172) := (bC_ BK169.out 1).trans rfl; have hcz114_2 : w112.cell? ⟨gb169, 2, none⟩ = some (.int .u64 t173) := (bC_ BK169.out 2).trans rfl; have hfz114_0 := bF_ BK169.out 0; have hfz114_1 := bF_ BK169.out 1; have hfz114_2 := bF_ BK169.out 2) | ((with_reducible refine gate_callee (f := 41) rfl ?_); refine goesL_ (some 14) rfl rfl Tryd.func41 (by kernel_rfl) rfl #[.agg #[.int .u64 t174, .int .u64 t175, .int .u64 t176], .int .u64 t172] rfl (by (try simp only [List.map_toArray, List.map_cons, List.map_nil]); first | done | rfl | (simp only [List.length_drop, List.length_take]; rfl)) ?_; (with_reducible refine (sundialref22_Has.calls t174 t175 t176 t172 true _ A21.out).mono ?_); rintro e w115 ⟨rfl, hb⟩; refine ⟨_, rfl, ?_⟩; have n0_ := Aside0.mk (blk_below (g := gb169) (o := .cells #[.int .u64 t171, .int .u64 t172, .int .u64 t173] 24 (0, 0)) (by (with_reducible repeat (first | refine bN_ ?_ _ | refine bD_ ?_ | refine bA_ ?_ _)); exact BK169.out) hb); have n1_ := Aside0.mk (blk_below (g := gb170) (o := .cells #[.int .u64 t174, .int .u64 t175, .int .u64 t176] 24 (0, 0)) (by (with_reducible repeat (first | refine bN_ ?_ _ | refine bD_ ?_ | refine bA_ ?_ _)); exact BK170.out) hb); have n2_ := Aside0.mk (below_step (by repeat (first | (with_reducible first | exact HB.out | apply bX_ | apply bW_ | apply bY_ | refine bS_ ?_ GE169.out | refine bS_ ?_ GE170.out) | exact HB.out)) hb); clear BK169; clear BK170; clear HB; have BK169 := n0_; have BK170 := n1_; have HB := n2_; clear n0_ n1_ n2_; (try clear hb); (try clear hb2); (try clear hk); (try clear hi); have hcz116_0 : w115.cell? ⟨gb170, 0, none⟩ = some (.int .u64 t174) := (bC_ BK170.out 0).trans rfl; have hcz116_1 : w115.cell? ⟨gb170, 1, none⟩ = some (.int .u64 t175) := (bC_ BK170.out 1).trans rfl; have hcz116_2 : w115.cell? ⟨gb170, 2, none⟩ = some (.int .u64 t176) := (bC_ BK170.out 2).trans rfl; have hfz116_0 := bF_ BK170.out 0; have hfz116_1 := bF_ BK170.out 1; have hfz116_2 := bF_ BK170.out 2; have hcz117_0 : w115.cell? ⟨gb169, 0, none⟩ = some (.int .u64 t171) := (bC_ BK169.out 0).trans rfl; have hcz117_1 : w115.cell? ⟨gb169, 1, none⟩ = some (.int .u64 t172) := (bC_ BK169.out 1).trans rfl; have hcz117_2 : w115.cell? ⟨gb169, 2, none⟩ = some (.int .u64 t173) := (bC_ BK169.out 2).trans rfl; have hfz117_0 := bF_ BK169.out 0; have hfz117_1 := bF_ BK169.out 1; have hfz117_2 := bF_ BK169.out 2) | (go_at_call 41; (with_reducible refine (sundialref22_Has.calls t174 t175 t176 t173 false _ A23.out).mono ?_); rintro e w118 ⟨rfl, hb⟩; have n0_ := Aside0.mk (blk_below (g := gb169) (o := .cells #[.int .u64 t171, .int .u64 t172, .int .u64 t173] 24 (0, 0)) (by (with_reducible repeat (first | refine bN_ ?_ _ | refine bD_ ?_ | refine bA_ ?_ _)); exact BK169.out) hb); have n1_ := Aside0.mk (blk_below (g := gb170) (o := .cells #[.int .u64 t174, .int .u64 t175, .int .u64 t176] 24 (0, 0)) (by (with_reducible repeat (first | refine bN_ ?_ _ | refine bD_ ?_ | refine bA_ ?_ _)); exact BK170.out) hb); have n2_ := Aside0.mk (below_step (by repeat (first | (with_reducible first | exact HB.out | apply bX_ | apply bW_ | apply bY_ | refine bS_ ?_ GE169.out | refine bS_ ?_ GE170.out) | exact HB.out)) hb); clear BK169; clear BK170; clear HB; have BK169 := n0_; have BK170 := n1_; have HB := n2_; clear n0_ n1_ n2_; (try clear hb); (try clear hb2); (try clear hk); (try clear hi)))
        go_ret
        exact ⟨by first | rfl | (simp [errW_none, errW_some] <;> rfl) | (simp [*, errW_none, errW_some] <;> rfl), by repeat (first | (with_reducible first | exact HB.out | apply bX_ | apply bW_ | apply bY_ | refine bS_ ?_ GE169.out | refine bS_ ?_ GE170.out) | exact HB.out)⟩
    · replace c22 := Bool.eq_false_iff.mpr c22
      subst c22
      have H1 : (some false) = some r := by rw [if_neg (show ¬ (false = true) by decide)] at H; exact H
      clear H
      have H := H1
      clear H1
      obtain rfl := Option.some.inj H
      go_enter Tryd.func20, Tryd.ntmps20
      try go_wp2_with (first | ((with_reducible refine gate_dst (N := 2) rfl ?_); (try (refine gate_guard (by rfl) ?_; dsimp only)); refine box_event ?hg (N := 2) ?hd (cs := #[.int .u64 a0_0, .int .u64 a0_1, .int .u64 a0_2]) (t := 24) ?hr ?_; (case hd => rfl); (case hg => rfl); (case hr => first | (go_simp; done) | (go_simp; rfl)); intro gb169 hg w119 hbox hb; have n0_ := Aside0.mk (below_step (by repeat (first | (with_reducible first | exact HB.out | apply bX_ | apply bW_ | apply bY_) | exact HB.out)) hb); have n1_ := Aside0.mk (hbox); have n2_ := Aside0.mk ((by rw [hg]; exact (below_size (by repeat (first | (with_reducible first | exact HB.out | apply bX_ | apply bW_ | apply bY_) | exact HB.out))) : w.heap.size ≤ gb169)); have n3_ := Aside0.mk ((by rw [hg]; exact (below_size (by repeat (first | (with_reducible first | exact HB.out | apply bX_ | apply bW_ | apply bY_) | exact HB.out))) : w.heap.size ≤ gb169)); clear HB; have HB := n0_; have BK169 := n1_; have GW169 := n2_; have GE169 := n3_; clear n0_ n1_ n2_ n3_; clear hb hbox hg) | ((with_reducible refine gate_dst (N := 3) rfl ?_); (try (refine gate_guard (by rfl) ?_; dsimp only)); refine box_event ?hg (N := 3) ?hd (cs := #[.int .u64 a1_0, .int .u64 a1_1, .int .u64 a1_2]) (t := 24) ?hr ?_; (case hd => rfl); (case hg => rfl); (case hr => first | (go_simp; done) | (go_simp; rfl)); intro gb170 hg w120 hbox hb; have n0_ := Aside0.mk (blk_below (g := gb169) (o := .cells #[.int .u64 a0_0, .int .u64 a0_1, .int .u64 a0_2] 24 (0, 0)) (by (with_reducible repeat (first | refine bN_ ?_ _ | refine bD_ ?_ | refine bA_ ?_ _)); exact BK169.out) hb); have n1_ := Aside0.mk (below_step (by repeat (first | (with_reducible first | exact HB.out | apply bX_ | apply bW_ | apply bY_ | refine bS_ ?_ GE169.out) | exact HB.out)) hb); have n2_ := Aside0.mk (hbox); have n3_ := Aside0.mk ((by rw [hg]; exact (below_size (by repeat (first | (with_reducible first | exact HB.out | apply bX_ | apply bW_ | apply bY_ | refine bS_ ?_ GE169.out) | exact HB.out))) : w.heap.size ≤ gb170)); have n4_ := Aside0.mk ((by rw [hg]; exact (below_size (by repeat (first | (with_reducible first | exact HB.out | apply bX_ | apply bW_ | apply bY_ | refine bS_ ?_ GE169.out) | exact HB.out))) : w.heap.size ≤ gb170)); have n5_ := Aside0.mk ((by rw [hg]; exact Nat.ne_of_lt (blk_lt (g := gb169) (o := .cells #[.int .u64 a0_0, .int .u64 a0_1, .int .u64 a0_2] 24 (0, 0)) (by (with_reducible repeat (first | refine bN_ ?_ _ | refine bD_ ?_ | refine bA_ ?_ _)); exact BK169.out)) : gb169 ≠ gb170)); have n6_ := Aside0.mk ((by rw [hg]; exact Nat.ne_of_gt (blk_lt (g := gb169) (o := .cells #[.int .u64 a0_0, .int .u64 a0_1, .int .u64 a0_2] 24 (0, 0)) (by (with_reducible repeat (first | refine bN_ ?_ _ | refine bD_ ?_ | refine bA_ ?_ _)); exact BK169.out)) : gb170 ≠ gb169)); clear BK169; clear HB; have BK169 := n0_; have HB := n1_; have BK170 := n2_; have GW170 := n3_; have GE170 := n4_; have NB169_170 := n5_; have NB170_169 := n6_; clear n0_ n1_ n2_ n3_ n4_ n5_ n6_; clear hb hbox hg))
      have n0_ := Aside0.mk (bD_ BK169.out)
      have n1_ := Aside0.mk (bD_ BK170.out)
      have n2_ := Aside0.mk (bY_ HB.out)
      clear BK169
      clear BK170
      clear HB
      have BK169 := n0_
      have BK170 := n1_
      have HB := n2_
      clear n0_ n1_ n2_
      refine start_ (n := 6) (S := fun w' => w'.cell? ⟨gb169, 0, none⟩ = some (.int .u64 a0_0) ∧ w'.cell? ⟨gb169, 1, none⟩ = some (.int .u64 a0_1) ∧ w'.cell? ⟨gb169, 2, none⟩ = some (.int .u64 a0_2) ∧ w'.cell? ⟨gb170, 0, none⟩ = some (.int .u64 a1_0) ∧ w'.cell? ⟨gb170, 1, none⟩ = some (.int .u64 a1_1) ∧ w'.cell? ⟨gb170, 2, none⟩ = some (.int .u64 a1_2)) (ds := [4, 5]) #[false, false, false, false, false, false] (by kernel_rfl) rfl rfl ⟨(bC_ BK169.out 0).trans rfl, (bC_ BK169.out 1).trans rfl, (bC_ BK169.out 2).trans rfl, (bC_ BK170.out 0).trans rfl, (bC_ BK170.out 1).trans rfl, (bC_ BK170.out 2).trans rfl⟩ (fun hHeld => ?_)
      generalize w120.drew = w121 at BK169 BK170 HB hHeld ⊢
      refine take_ (i := 0) (N := some 5) (v := ?_) (a' := ?_) #[true, false, false, false, false, false] rfl rfl (by kernel_rfl) (fun _ _ _ h => h) (Or.inl ⟨by rfl, ?_⟩) hHeld ?_ ?_
      rotate_left
      · rintro w' ⟨s0, s1, s2, s3, s4, s5⟩
        go_simp
        with_reducible rfl
      rotate_left
      · simp only [Act.put, List.setIfInBounds_toArray, List.set_cons_zero, List.set_cons_succ, i64_w, i32_w]
        rfl
      refine take_ (i := 2) (N := some 7) (v := ?_) (a' := ?_) #[true, false, true, false, false, false] rfl rfl (by kernel_rfl) (fun _ _ _ h => h) (Or.inl ⟨by rfl, ?_⟩) hHeld ?_ ?_
      rotate_left
      · rintro w' ⟨s0, s1, s2, s3, s4, s5⟩
        go_simp
        with_reducible rfl
      rotate_left
      · simp only [Act.put, List.setIfInBounds_toArray, List.set_cons_zero, List.set_cons_succ, i64_w, i32_w]
        rfl
      refine one_ (i := 1) (N := some 6) #[true, true, true, false, false, false] rfl rfl (by kernel_rfl) (by decide) (fun K hK => ?_)
      refine goes_ Tryd.func21 (by kernel_rfl) rfl #[.agg #[.int .u64 a0_0, .int .u64 a0_1, .int .u64 a0_2]] (by rfl) rfl rfl (by (try simp only [List.map_toArray, List.map_cons, List.map_nil]); first | done | rfl | (simp only [List.length_drop, List.length_take]; rfl)) ?_
      with_reducible refine (sundialref22_seen.calls a0_0 a0_1 a0_2 t171 t172 t173 _ A3.out).mono ?_
      rintro e w122 ⟨rfl, hb⟩
      refine ⟨_, rfl, ?_⟩
      have n0_ := Aside0.mk (blk_below (g := gb169) (o := .cells #[.int .u64 a0_0, .int .u64 a0_1, .int .u64 a0_2] 24 (0, 0)) (by (with_reducible repeat (first | refine bN_ ?_ _ | refine bD_ ?_ | refine bA_ ?_ _)); exact BK169.out) hb)
      have n1_ := Aside0.mk (blk_below (g := gb170) (o := .cells #[.int .u64 a1_0, .int .u64 a1_1, .int .u64 a1_2] 24 (0, 0)) (by (with_reducible repeat (first | refine bN_ ?_ _ | refine bD_ ?_ | refine bA_ ?_ _)); exact BK170.out) hb)
      have n2_ := Aside0.mk (below_step (by repeat (first | (with_reducible first | exact HB.out | apply bX_ | apply bW_ | apply bY_ | refine bS_ ?_ GE169.out | refine bS_ ?_ GE170.out) | exact HB.out)) hb)
      clear BK169
      clear BK170
      clear HB
      have BK169 := n0_
      have BK170 := n1_
      have HB := n2_
      clear n0_ n1_ n2_
      (try clear hb)
      (try clear hb2)
      (try clear hk)
      (try clear hi)
      refine hK.out _ _ ⟨(bC_ BK169.out 0).trans rfl, (bC_ BK169.out 1).trans rfl, (bC_ BK169.out 2).trans rfl, (bC_ BK170.out 0).trans rfl, (bC_ BK170.out 1).trans rfl, (bC_ BK170.out 2).trans rfl⟩ (fun hHeld => ?_)
      clear hK K
      refine norm_ (a' := ?_) ?_ ?_
      rotate_left
      · show Act.put _ (some 6) _ = _
        simp only [Act.put, List.setIfInBounds_toArray, List.set_cons_zero, List.set_cons_succ, i64_w, i32_w]
        rfl
      refine one_ (i := 3) (N := some 8) #[true, true, true, true, false, false] rfl rfl (by kernel_rfl) (by decide) (fun K hK => ?_)
      refine goes_ Tryd.func21 (by kernel_rfl) rfl #[.agg #[.int .u64 a1_0, .int .u64 a1_1, .int .u64 a1_2]] (by rfl) rfl rfl (by (try simp only [List.map_toArray, List.map_cons, List.map_nil]); first | done | rfl | (simp only [List.length_drop, List.length_take]; rfl)) ?_
      with_reducible refine (sundialref22_seen.calls a1_0 a1_1 a1_2 t174 t175 t176 _ A4.out).mono ?_
      rintro e w123 ⟨rfl, hb⟩
      refine ⟨_, rfl, ?_⟩
      have n0_ := Aside0.mk (blk_below (g := gb169) (o := .cells #[.int .u64 a0_0, .int .u64 a0_1, .int .u64 a0_2] 24 (0, 0)) (by (with_reducible repeat (first | refine bN_ ?_ _ | refine bD_ ?_ | refine bA_ ?_ _)); exact BK169.out) hb)
      have n1_ := Aside0.mk (blk_below (g := gb170) (o := .cells #[.int .u64 a1_0, .int .u64 a1_1, .int .u64 a1_2] 24 (0, 0)) (by (with_reducible repeat (first | refine bN_ ?_ _ | refine bD_ ?_ | refine bA_ ?_ _)); exact BK170.out) hb)
      have n2_ := Aside0.mk (below_step (by repeat (first | (with_reducible first | exact HB.out | apply bX_ | apply bW_ | apply bY_ | refine bS_ ?_ GE169.out | refine bS_ ?_ GE170.out) | exact HB.out)) hb)
      clear BK169
      clear BK170
      clear HB
      have BK169 := n0_
      have BK170 := n1_
      have HB := n2_
      clear n0_ n1_ n2_
      (try clear hb)
      (try clear hb2)
      (try clear hk)
      (try clear hi)
      refine hK.out _ _ ⟨(bC_ BK169.out 0).trans rfl, (bC_ BK169.out 1).trans rfl, (bC_ BK169.out 2).trans rfl, (bC_ BK170.out 0).trans rfl, (bC_ BK170.out 1).trans rfl, (bC_ BK170.out 2).trans rfl⟩ (fun hHeld => ?_)
      clear hK K
      refine norm_ (a' := ?_) ?_ ?_
      rotate_left
      · show Act.put _ (some 8) _ = _
        simp only [Act.put, List.setIfInBounds_toArray, List.set_cons_zero, List.set_cons_succ, i64_w, i32_w]
        rfl
      refine last_ (i := 4) (N := none) #[true, true, true, true, true, false] rfl rfl (by kernel_rfl) (by decide) (fun K hK => ?_)
      have hs124 : w123.cell? ⟨gb169, 0, none⟩ = some (.int .u64 a0_0) := (bC_ BK169.out 0).trans rfl
      have hfs124 := bF_ BK169.out 0
      have hns124_1 := NB170_169.out
      have hms124_1 := NB169_170.out
      have hs125 : w123.cell? ⟨gb169, 1, none⟩ = some (.int .u64 a0_1) := (bC_ BK169.out 1).trans rfl
      have hfs125 := bF_ BK169.out 1
      have hns125_1 := NB170_169.out
      have hms125_1 := NB169_170.out
      have hs126 : w123.cell? ⟨gb169, 2, none⟩ = some (.int .u64 a0_2) := (bC_ BK169.out 2).trans rfl
      have hfs126 := bF_ BK169.out 2
      have hns126_1 := NB170_169.out
      have hms126_1 := NB169_170.out
      refine skip_ (w1 := ?_) (by rfl) rfl ?_ ?_
      rotate_left
      · go_simp
        rfl
      refine hK.out _ _ ?_
      clear hK K
      refine last_ (i := 5) (N := none) #[true, true, true, true, true, true] rfl rfl (by kernel_rfl) (by decide) (fun K hK => ?_)
      have hs127 : w123.cell? ⟨gb170, 0, none⟩ = some (.int .u64 a1_0) := (bC_ BK170.out 0).trans rfl
      have hfs127 := bF_ BK170.out 0
      have hns127_0 := NB169_170.out
      have hms127_0 := NB170_169.out
      have hs128 : w123.cell? ⟨gb170, 1, none⟩ = some (.int .u64 a1_1) := (bC_ BK170.out 1).trans rfl
      have hfs128 := bF_ BK170.out 1
      have hns128_0 := NB169_170.out
      have hms128_0 := NB170_169.out
      have hs129 : w123.cell? ⟨gb170, 2, none⟩ = some (.int .u64 a1_2) := (bC_ BK170.out 2).trans rfl
      have hfs129 := bF_ BK170.out 2
      have hns129_0 := NB169_170.out
      have hms129_0 := NB170_169.out
      refine skip_ (w1 := ?_) (by rfl) rfl ?_ ?_
      rotate_left
      · go_simp
        rfl
      refine hK.out _ _ ?_
      clear hK K
      refine done_ (by kernel_rfl) ?_
      have hnb130 := NB169_170.out
      have hnc130 := NB170_169.out
      have hcz131_0 : w123.cell? ⟨gb169, 0, none⟩ = some (.int .u64 a0_0) := (bC_ BK169.out 0).trans rfl
      have hcz131_1 : w123.cell? ⟨gb169, 1, none⟩ = some (.int .u64 a0_1) := (bC_ BK169.out 1).trans rfl
      have hcz131_2 : w123.cell? ⟨gb169, 2, none⟩ = some (.int .u64 a0_2) := (bC_ BK169.out 2).trans rfl
      have hfz131_0 := bF_ BK169.out 0
      have hfz131_1 := bF_ BK169.out 1
      have hfz131_2 := bF_ BK169.out 2
      try go_wp2_with (first | ((with_reducible refine gate_callee (f := 22) rfl ?_); refine goesL_ (some 10) rfl rfl Tryd.func22 (by kernel_rfl) rfl #[.agg #[.int .u64 t171, .int .u64 t172, .int .u64 t173]] rfl (by (try simp only [List.map_toArray, List.map_cons, List.map_nil]); first | done | rfl | (simp only [List.length_drop, List.length_take]; rfl)) ?_; (with_reducible refine (sundialref22_empty.calls t171 t172 t173 false _ A5.out).mono ?_); rintro e w132 ⟨rfl, hb⟩; refine ⟨_, rfl, ?_⟩; have n0_ := Aside0.mk (blk_below (g := gb169) (o := .cells #[.int .u64 t171, .int .u64 t172, .int .u64 t173] 24 (0, 0)) (by (with_reducible repeat (first | refine bN_ ?_ _ | refine bD_ ?_ | refine bA_ ?_ _)); refine blk_far ?_ NB169_170.out _; (with_reducible repeat (first | refine bN_ ?_ _ | refine bD_ ?_ | refine bA_ ?_ _)); refine blk_far ?_ NB169_170.out _; (with_reducible repeat (first | refine bN_ ?_ _ | refine bD_ ?_ | refine bA_ ?_ _)); refine blk_far ?_ NB169_170.out _; (with_reducible repeat (first | refine bN_ ?_ _ | refine bD_ ?_ | refine bA_ ?_ _)); refine blk_put (cs := #[.int .u64 t171, .int .u64 t172, .int .u64 a0_2]) ?_ 2 _ rfl; (with_reducible repeat (first | refine bN_ ?_ _ | refine bD_ ?_ | refine bA_ ?_ _)); refine blk_put (cs := #[.int .u64 t171, .int .u64 a0_1, .int .u64 a0_2]) ?_ 1 _ rfl; (with_reducible repeat (first | refine bN_ ?_ _ | refine bD_ ?_ | refine bA_ ?_ _)); refine blk_put (cs := #[.int .u64 a0_0, .int .u64 a0_1, .int .u64 a0_2]) ?_ 0 _ rfl; (with_reducible repeat (first | refine bN_ ?_ _ | refine bD_ ?_ | refine bA_ ?_ _)); exact BK169.out) hb); have n1_ := Aside0.mk (blk_below (g := gb170) (o := .cells #[.int .u64 t174, .int .u64 t175, .int .u64 t176] 24 (0, 0)) (by (with_reducible repeat (first | refine bN_ ?_ _ | refine bD_ ?_ | refine bA_ ?_ _)); refine blk_put (cs := #[.int .u64 t174, .int .u64 t175, .int .u64 a1_2]) ?_ 2 _ rfl; (with_reducible repeat (first | refine bN_ ?_ _ | refine bD_ ?_ | refine bA_ ?_ _)); refine blk_put (cs := #[.int .u64 t174, .int .u64 a1_1, .int .u64 a1_2]) ?_ 1 _ rfl; (with_reducible repeat (first | refine bN_ ?_ _ | refine bD_ ?_ | refine bA_ ?_ _)); refine blk_put (cs := #[.int .u64 a1_0, .int .u64 a1_1, .int .u64 a1_2]) ?_ 0 _ rfl; (with_reducible repeat (first | refine bN_ ?_ _ | refine bD_ ?_ | refine bA_ ?_ _)); refine blk_far ?_ NB170_169.out _; (with_reducible repeat (first | refine bN_ ?_ _ | refine bD_ ?_ | refine bA_ ?_ _)); refine blk_far ?_ NB170_169.out _; (with_reducible repeat (first | refine bN_ ?_ _ | refine bD_ ?_ | refine bA_ ?_ _)); refine blk_far ?_ NB170_169.out _; (with_reducible repeat (first | refine bN_ ?_ _ | refine bD_ ?_ | refine bA_ ?_ _)); exact BK170.out) hb); have n2_ := Aside0.mk (below_step (by repeat (first | (with_reducible first | exact HB.out | apply bX_ | apply bW_ | apply bY_ | refine bS_ ?_ GE169.out | refine bS_ ?_ GE170.out) | exact HB.out)) hb); clear BK169; clear BK170; clear HB; have BK169 := n0_; have BK170 := n1_; have HB := n2_; clear n0_ n1_ n2_; (try clear hb); (try clear hb2); (try clear hk); (try clear hi); have hcz133_0 : w132.cell? ⟨gb170, 0, none⟩ = some (.int .u64 t174) := (bC_ BK170.out 0).trans rfl; have hcz133_1 : w132.cell? ⟨gb170, 1, none⟩ = some (.int .u64 t175) := (bC_ BK170.out 1).trans rfl; have hcz133_2 : w132.cell? ⟨gb170, 2, none⟩ = some (.int .u64 t176) := (bC_ BK170.out 2).trans rfl; have hfz133_0 := bF_ BK170.out 0; have hfz133_1 := bF_ BK170.out 1; have hfz133_2 := bF_ BK170.out 2; have hcz134_0 : w132.cell? ⟨gb169, 0, none⟩ = some (.int .u64 t171) := (bC_ BK169.out 0).trans rfl; have hcz134_1 : w132.cell? ⟨gb169, 1, none⟩ = some (.int .u64 t172) := (bC_ BK169.out 1).trans rfl; have hcz134_2 : w132.cell? ⟨gb169, 2, none⟩ = some (.int .u64 t173) := (bC_ BK169.out 2).trans rfl; have hfz134_0 := bF_ BK169.out 0; have hfz134_1 := bF_ BK169.out 1; have hfz134_2 := bF_ BK169.out 2) | ((with_reducible refine gate_callee (f := 41) rfl ?_); refine goesL_ (some 14) rfl rfl Tryd.func41 (by kernel_rfl) rfl #[.agg #[.int .u64 t174, .int .u64 t175, .int .u64 t176], .int .u64 t172] rfl (by (try simp only [List.map_toArray, List.map_cons, List.map_nil]); first | done | rfl | (simp only [List.length_drop, List.length_take]; rfl)) ?_; (with_reducible refine (sundialref22_Has.calls t174 t175 t176 t172 false _ A21.out).mono ?_); rintro e w135 ⟨rfl, hb⟩; refine ⟨_, rfl, ?_⟩; have n0_ := Aside0.mk (blk_below (g := gb169) (o := .cells #[.int .u64 t171, .int .u64 t172, .int .u64 t173] 24 (0, 0)) (by (with_reducible repeat (first | refine bN_ ?_ _ | refine bD_ ?_ | refine bA_ ?_ _)); exact BK169.out) hb); have n1_ := Aside0.mk (blk_below (g := gb170) (o := .cells #[.int .u64 t174, .int .u64 t175, .int .u64 t176] 24 (0, 0)) (by (with_reducible repeat (first | refine bN_ ?_ _ | refine bD_ ?_ | refine bA_ ?_ _)); exact BK170.out) hb); have n2_ := Aside0.mk (below_step (by repeat (first | (with_reducible first | exact HB.out | apply bX_ | apply bW_ | apply bY_ | refine bS_ ?_ GE169.out | refine bS_ ?_ GE170.out) | exact HB.out)) hb); clear BK169; clear BK170; clear HB; have BK169 := n0_; have BK170 := n1_; have HB := n2_; clear n0_ n1_ n2_; (try clear hb); (try clear hb2); (try clear hk); (try clear hi)))
      go_ret
      exact ⟨by first | rfl | (simp [errW_none, errW_some] <;> rfl) | (simp [*, errW_none, errW_some] <;> rfl), by repeat (first | (with_reducible first | exact HB.out | apply bX_ | apply bW_ | apply bY_ | refine bS_ ?_ GE169.out | refine bS_ ?_ GE170.out) | exact HB.out)⟩
end Go.Proofs.YtpphcfkldhemeaaDoor.B
