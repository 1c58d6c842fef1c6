/- What the document says of two sets: wakes is true. -/
import Derived.Test.YtpphcfkldhemeaaDoorOq11
namespace Go.Proofs.YtpphcfkldhemeaaDoor.B
open Go.RowKit Go.Proofs.YtpphcfkldhemeaaDoorW.PrintWords Go.Proofs.YtpphcfkldhemeaaDoorW.PrintMore Go.RF
set_option linter.unusedVariables false
set_option linter.unusedSimpArgs false
set_option maxHeartbeats 8000000 in
set_option maxRecDepth 100000 in
theorem many_none (w : World) : Calls Tryd.prog 13 #[setV 0 1 0] w fun e w' => e = .returned (.int .u64 0) ∧ Below w.heap.size w w' := by
  go_enter Tryd.func13, Tryd.ntmps13
  go_wp2_with (first | (go_at_call 27; refine (strided_some.calls 0 1 0 false _ some_no).mono ?_; rintro e w1 ⟨rfl, hb⟩; have HB := Aside0.mk hb; clear hb))
  go_ret
  exact ⟨rfl, (bX_ (Below.refl _ _) _).trans (HB.out.mono (by simp))⟩
theorem valsP_len (s l h : Int) : (valsP s l h).length = stepsN s l h + 1 := by
  unfold valsP
  generalize stepsN s l h + 1 = n
  induction n generalizing l with
  | zero => rfl
  | succ n ih => simp [valL, ih]
theorem list_sm (s l h most : Int) (k : Sm s l h) (w : World) (hm1 : most ≤ 1000000) (hn : (stepsN s l h : Int) + 1 < most) : Calls Tryd.prog 12 #[setV s l h, .int .i64 most] w fun e w' =>
      ∃ v, e = .returned v ∧ Kd.R (Kd.int .u64) 22 w' w.heap.size (fun _ => True) v (valsP s l h) ∧ Below w.heap.size w w' :=
  list_gen s l h most _ w (by omega) hm1 (by rw [valsP_len]; omega) (fun bs W R hb hR => vals_iter bs s l h k W R hb hR)
theorem sm4 : Sm 4 3 19 := ⟨by decide, by decide, .inr ⟨by decide, by decide, by decide⟩⟩
theorem sm8 : Sm 8 3 11 := ⟨by decide, by decide, .inr ⟨by decide, by decide, by decide⟩⟩
theorem ok4 : Ok (4, 3, 19) := .inr sm4
theorem okOne {x : Int} (h0 : 0 ≤ x) (h1 : x < 18446744073709551616) : Ok (0, x, x) := .inr (one_ok h0 h1)
theorem sum_wakes : addT (cutT (4, 3, 19) (maskF 1)) (cutT (0, 1, 1) (maskF 1)) (maskF 1) = (4, 4, 20) := by decide
theorem join_wakes : joinT (0, 3, 3) (0, 11, 11) = (8, 3, 11) := by decide
theorem load_of {W : World} {ad : Addr} {x : Int} (h : W.cell? ad = some (.int .u64 x)) : (Instr.loadAt 22 (.pointer (some ad))).run Tryd.prog W = .ok (.int .u64 x) W := by
  have ha : (isAgg 22).run Tryd.prog W = .ok false W := by unfold isAgg; rw [Sem.run_bind, run_underlying Tryd.underlying22]; rfl
  go_simp
def WkS (w0 : World) (g1 g3 : Nat) (ad : Addr) (w : World) : Prop :=
  w.heap[g1]? = some (.cells (setC 4 3 19) 24 (0, 0)) ∧ w.heap[g3]? = some (.cells (setC 8 3 11) 24 (0, 0)) ∧ w.cell? (ad.add 4) = some (.int .u64 19) ∧ Tab w ∧ Below w0.heap.size w0 w
theorem WkS.met {w0 : World} {g1 g3 : Nat} {ad : Addr} {w w' : World} (h : WkS w0 g1 g3 ad w) (hb : Below w.heap.size w w') : WkS w0 g1 g3 ad w' :=
  ⟨heap_below hb h.1, heap_below hb h.2.1, pw_cell_below hb h.2.2.1, h.2.2.2.1.below hb, below_step h.2.2.2.2 hb⟩
theorem WkS.drew {w0 : World} {g1 g3 : Nat} {ad : Addr} {w : World} (h : WkS w0 g1 g3 ad w) : WkS w0 g1 g3 ad { w with drawn := w.drawn + 1 } := by
  obtain ⟨h1, h2, h3, h4, h5⟩ := h
  exact ⟨h1, h2, h3, h4, bY_ h5⟩
set_option maxHeartbeats 8000000 in
set_option maxRecDepth 100000 in
theorem wakes_calls (w0 : World) (hT : Tab w0) : Calls Tryd.prog 8 #[] w0 fun e w' => e = .returned (.bool true) ∧ Below w0.heap.size w0 w' := by
  obtain ⟨KJ, hj⟩ := join_f (okOne (x := 3) (by decide) (by decide)) (okOne (x := 11) (by decide) (by decide))
  rw [join_wakes] at hj
  have HJ := Aside0.mk hj
  have HT := Aside0.mk hT
  clear hj hT
  go_enter Tryd.func8, Tryd.ntmps8
  go_upto_region 2 with (go_at_call 23; refine (strided_Of.calls 3 20 4 4 3 19 _ (by decide)).mono ?_; rintro e w1 ⟨rfl, hb⟩; have HB := Aside0.mk hb; clear hb)
  have k1 := World.alloc_heap_new w1 (.cells (setC 4 3 19) 24)
  have kb := below_step HB.out (bX_ (Below.refl _ _) (.cells (setC 4 3 19) 24) : Below w1.heap.size w1 (w1.alloc (.cells (setC 4 3 19) 24)))
  generalize w1.alloc (.cells (setC 4 3 19) 24) = w2 at *
  generalize w1.heap.size = g1 at *
  have K1 := Aside0.mk k1
  clear HB
  have HB := Aside0.mk kb
  obtain ⟨⟨q0, q1, q2⟩, -⟩ := rows3 k1
  clear k1 kb
  go_upto_region 3 with (go_at_call 12; refine (list_sm 4 3 19 99 sm4 _ (by decide) (by decide)).mono ?_; rintro e w3 ⟨v, rfl, hl, hb⟩)
  have L1 := Aside0.mk (show Kd.R (Kd.int .u64) 22 w3 w2.heap.size (fun _ => True) v [3, 7, 11, 15, 19] from hl)
  have hb3 := below_step HB.out hb
  have k1 := heap_below hb K1.out
  clear HB K1 hl q0 q1 q2
  have HB := Aside0.mk hb3
  have K1 := Aside0.mk k1
  obtain ⟨A, c, rfl⟩ : ∃ A c, v = .slice A 5 c := by
    obtain ⟨_, _, ho, _⟩ := L1.out
    exact own_slice ho
  clear hb hb3 k1
  go_upto_region 4 with (first | (go_at_call 24; refine (strided_One.calls 3 0 3 3 _ rfl).mono ?_; rintro e w4 ⟨rfl, hb4⟩) | (go_at_call 24; refine (strided_One.calls 11 0 11 11 _ rfl).mono ?_; rintro e w5 ⟨rfl, hb5⟩) | (go_at_call 10; refine (strided_Join.calls KJ 0 3 3 0 11 11 8 3 11 _ HJ.out).mono ?_; rintro e w6 ⟨rfl, hb6⟩))
  obtain ⟨ad, rfl, hcell⟩ := (Kd.reads_of_C (enc := Value.int .u64) (d := (0 : Int)) (h1 := fun _ => rfl) (Kd.R_reads' L1.out).2.2).2.2 (by decide)
  have k3 := World.alloc_heap_new w6 (.cells (setC 8 3 11) 24)
  have hb7 : Below w6.heap.size w6 (w6.alloc (.cells (setC 8 3 11) 24)) := bX_ (Below.refl _ _) _
  generalize w6.alloc (.cells (setC 8 3 11) 24) = w7 at *
  generalize w6.heap.size = g3 at k3 ⊢
  have hs : WkS w0 g1 g3 ad w7 := ⟨heap_below hb7 (heap_below hb6 (heap_below hb5 (heap_below hb4 K1.out))), k3, pw_cell_below hb7 (pw_cell_below hb6 (pw_cell_below hb5 (pw_cell_below hb4 (hcell 4 (by decide))))), HT.out.below (below_step HB.out (below_step hb4 (below_step hb5 (below_step hb6 hb7)))), below_step HB.out (below_step hb4 (below_step hb5 (below_step hb6 hb7)))⟩
  clear HB K1 L1 hcell hb4 hb5 hb6 hb7 k3
  have HS := Aside0.mk hs
  clear hs
  refine RS.wp_drawn (by kernel_rfl) [(10, .slice (some ad) 5 c), (11, .int .i64 5), (12, .bool true), (13, .bool true), (14, .slice (some ad) 5 c), (15, .pointer (some (ad.add 4))), (16, .int .u64 19), (17, .bool true), (18, .bool true), (19, .bool true), (20, .pointer (some ⟨g1, 2, none⟩)), (21, .int .u64 19), (22, .bool true), (23, .bool true), (24, .bool true), (25, setV 8 3 11), (26, setV 8 3 11), (27, .bool true), (28, .bool true), (29, .bool true), (30, setV 8 3 11), (31, .bool true), (32, .bool true), (33, .bool true), (34, setV 8 3 11), (35, .bool false), (36, .bool true), (37, .bool true), (38, .bool true), (39, setV 2 1 4), (40, .bool false), (41, .bool true), (42, .bool true), (43, .bool true), (44, setV 0 1 0), (45, .int .u64 0), (46, .bool true), (47, .bool true), (48, .bool true), (49, setV 8 3 11), (50, setV 4 3 19), (51, .bool true), (52, .bool true), (53, .bool true), (54, setV 4 3 19), (55, setV 0 1 1), (56, setV 4 4 20), (57, .int .u64 4), (58, .bool true), (59, .bool true), (0, .bool true)] (WkS w0 g1 g3 ad) (by kernel_rfl) (by kernel_rfl) HS.out.drew ?_ ?_
  · exact ⟨RS.StepOK.pure 10 (by kernel_rfl) rfl (fun w => by kernel_rfl),
    RS.StepOK.pure 11 (by kernel_rfl) rfl (fun w => by kernel_rfl),
    RS.StepOK.pure 12 (by kernel_rfl) rfl (fun w => by kernel_rfl),
    RS.StepOK.pure 13 (by kernel_rfl) rfl (fun w => by kernel_rfl),
    RS.StepOK.pure 14 (by kernel_rfl) rfl (fun w => by kernel_rfl),
    RS.StepOK.pure 15 (by kernel_rfl) rfl (fun w => by kernel_rfl),
    RS.StepOK.load 16 (.int .u64 19) (by kernel_rfl) (by kernel_rfl) rfl (fun w hS => run_load rfl (by kernel_rfl) (load_of hS.2.2.1)),
    RS.StepOK.pure 17 (by kernel_rfl) rfl (fun w => by kernel_rfl),
    RS.StepOK.pure 18 (by kernel_rfl) rfl (fun w => by kernel_rfl),
    RS.StepOK.pure 19 (by kernel_rfl) rfl (fun w => by kernel_rfl),
    RS.StepOK.pure 20 (by kernel_rfl) rfl (fun w => by kernel_rfl),
    RS.StepOK.load 21 (.int .u64 19) (by kernel_rfl) (by kernel_rfl) rfl (fun w hS => run_load rfl (by kernel_rfl) (load_num (i := 2) Tryd.underlying22 hS.1 rfl)),
    RS.StepOK.pure 22 (by kernel_rfl) rfl (fun w => by kernel_rfl),
    RS.StepOK.pure 23 (by kernel_rfl) rfl (fun w => by kernel_rfl),
    RS.StepOK.pure 24 (by kernel_rfl) rfl (fun w => by kernel_rfl),
    RS.StepOK.load 25 (setV 8 3 11) (by kernel_rfl) (by kernel_rfl) rfl (fun w hS => run_load rfl (by kernel_rfl) (load_set hS.2.1)),
    RS.StepOK.pure 26 (by kernel_rfl) rfl (fun w => by kernel_rfl),
    RS.StepOK.load 27 (.bool true) (by kernel_rfl) (by kernel_rfl) rfl (fun w hS => run_bin rfl (by kernel_rfl) (by kernel_rfl) (by kernel_rfl) (eql_set 8 3 11 8 3 11 w)),
    RS.StepOK.pure 28 (by kernel_rfl) rfl (fun w => by kernel_rfl),
    RS.StepOK.pure 29 (by kernel_rfl) rfl (fun w => by kernel_rfl),
    RS.StepOK.load 30 (setV 8 3 11) (by kernel_rfl) (by kernel_rfl) rfl (fun w hS => run_load rfl (by kernel_rfl) (load_set hS.2.1)),
    RS.StepOK.call 31 9 #[setV 8 3 11, .int .u64 11] (.bool true) (by kernel_rfl) (by kernel_rfl) rfl (fun w => by kernel_rfl) (fun w hS => (strided_Has.calls 8 3 11 11 true w (has_sm sm8 ⟨by decide, by decide⟩)).mono (by rintro e w' ⟨rfl, hb⟩; exact ⟨rfl, hS.met hb⟩)),
    RS.StepOK.pure 32 (by kernel_rfl) rfl (fun w => by kernel_rfl),
    RS.StepOK.pure 33 (by kernel_rfl) rfl (fun w => by kernel_rfl),
    RS.StepOK.load 34 (setV 8 3 11) (by kernel_rfl) (by kernel_rfl) rfl (fun w hS => run_load rfl (by kernel_rfl) (load_set hS.2.1)),
    RS.StepOK.call 35 9 #[setV 8 3 11, .int .u64 7] (.bool false) (by kernel_rfl) (by kernel_rfl) rfl (fun w => by kernel_rfl) (fun w hS => (strided_Has.calls 8 3 11 7 false w (has_sm sm8 ⟨by decide, by decide⟩)).mono (by rintro e w' ⟨rfl, hb⟩; exact ⟨rfl, hS.met hb⟩)),
    RS.StepOK.pure 36 (by kernel_rfl) rfl (fun w => by kernel_rfl),
    RS.StepOK.pure 37 (by kernel_rfl) rfl (fun w => by kernel_rfl),
    RS.StepOK.pure 38 (by kernel_rfl) rfl (fun w => by kernel_rfl),
    RS.StepOK.pure 39 (by kernel_rfl) rfl (fun w => by kernel_rfl),
    RS.StepOK.call 40 25 #[setV 2 1 4] (.bool false) (by kernel_rfl) (by kernel_rfl) rfl (fun w => by kernel_rfl) (fun w hS => (strided_Right.calls 2 1 4 false w (by decide)).mono (by rintro e w' ⟨rfl, hb⟩; exact ⟨rfl, hS.met hb⟩)),
    RS.StepOK.pure 41 (by kernel_rfl) rfl (fun w => by kernel_rfl),
    RS.StepOK.pure 42 (by kernel_rfl) rfl (fun w => by kernel_rfl),
    RS.StepOK.pure 43 (by kernel_rfl) rfl (fun w => by kernel_rfl),
    RS.StepOK.call 44 26 #[] (setV 0 1 0) (by kernel_rfl) (by kernel_rfl) rfl (fun w => by kernel_rfl) (fun w hS => (none_calls w).mono (by rintro e w' ⟨rfl, hb⟩; exact ⟨rfl, hS.met hb⟩)),
    RS.StepOK.call 45 13 #[setV 0 1 0] (.int .u64 0) (by kernel_rfl) (by kernel_rfl) rfl (fun w => by kernel_rfl) (fun w hS => (many_none w).mono (by rintro e w' ⟨rfl, hb⟩; exact ⟨rfl, hS.met hb⟩)),
    RS.StepOK.pure 46 (by kernel_rfl) rfl (fun w => by kernel_rfl),
    RS.StepOK.pure 47 (by kernel_rfl) rfl (fun w => by kernel_rfl),
    RS.StepOK.pure 48 (by kernel_rfl) rfl (fun w => by kernel_rfl),
    RS.StepOK.load 49 (setV 8 3 11) (by kernel_rfl) (by kernel_rfl) rfl (fun w hS => run_load rfl (by kernel_rfl) (load_set hS.2.1)),
    RS.StepOK.load 50 (setV 4 3 19) (by kernel_rfl) (by kernel_rfl) rfl (fun w hS => run_load rfl (by kernel_rfl) (load_set hS.1)),
    RS.StepOK.call 51 11 #[setV 8 3 11, setV 4 3 19] (.bool true) (by kernel_rfl) (by kernel_rfl) rfl (fun w => by kernel_rfl) (fun w hS => (strided_In.calls 8 3 11 4 3 19 true w (in_sm sm8 sm4)).mono (by rintro e w' ⟨rfl, hb⟩; exact ⟨rfl, hS.met hb⟩)),
    RS.StepOK.pure 52 (by kernel_rfl) rfl (fun w => by kernel_rfl),
    RS.StepOK.pure 53 (by kernel_rfl) rfl (fun w => by kernel_rfl),
    RS.StepOK.load 54 (setV 4 3 19) (by kernel_rfl) (by kernel_rfl) rfl (fun w hS => run_load rfl (by kernel_rfl) (load_set hS.1)),
    RS.StepOK.call 55 24 #[.int .u64 1] (setV 0 1 1) (by kernel_rfl) (by kernel_rfl) rfl (fun w => by kernel_rfl) (fun w hS => (strided_One.calls 1 0 1 1 w rfl).mono (by rintro e w' ⟨rfl, hb⟩; exact ⟨rfl, hS.met hb⟩)),
    RS.StepOK.call 56 14 #[setV 4 3 19, setV 0 1 1, .int .i64 1] (setV 4 4 20) (by kernel_rfl) (by kernel_rfl) rfl (fun w => by kernel_rfl) (fun w hS => (add_calls (4, 3, 19) (0, 1, 1) ok4 (okOne (by decide) (by decide)) 1 w hS.2.2.2.1).mono (by rw [sum_wakes]; rintro e w' ⟨rfl, hb⟩; exact ⟨rfl, hS.met hb⟩)),
    RS.StepOK.pure 57 (by kernel_rfl) rfl (fun w => by kernel_rfl),
    RS.StepOK.pure 58 (by kernel_rfl) rfl (fun w => by kernel_rfl),
    RS.StepOK.pure 59 (by kernel_rfl) rfl (fun w => by kernel_rfl),
    RS.StepOK.pure 0 (by kernel_rfl) rfl (fun w => by kernel_rfl), trivial⟩
  rintro w8 hs
  clear HS
  have HS := Aside0.mk hs
  clear hs
  (try simp only [RS.sets, List.setIfInBounds_toArray, List.set_cons_zero, List.set_cons_succ])
  go_wp2_with fail
  go_ret
  exact ⟨rfl, HS.out.2.2.2.2⟩
end Go.Proofs.YtpphcfkldhemeaaDoor.B
