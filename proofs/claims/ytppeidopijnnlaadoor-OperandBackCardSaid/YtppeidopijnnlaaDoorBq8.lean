/- operand.Take, walked: it tells takeF's numbers. What the printed texts are given: contracts of operand.Take, operand.Uses, and of operand.Put at one constant operand (the claim that stands on this text calls it there alone). -/
import Derived.Test.YtppeidopijnnlaaDoorBq4
import Derived.Test.YtppeidopijnnlaaDoorBq3
import Derived.Test.YtppeidopijnnlaaDoorBq6
namespace Go.Proofs.YtppeidopijnnlaaDoor.B
open Go.RowKit Go.Proofs.YtppeidopijnnlaaDoorW.PrintWords Go.Proofs.YtppeidopijnnlaaDoorW.PrintMore Go.RF
set_option linter.unusedVariables false
set_option linter.unusedSimpArgs false
attribute [local go_sem] Oper.semAt_some
set_option maxHeartbeats 8000000 in
set_option maxRecDepth 100000 in
theorem take_calls (A : Option Addr) (c : Nat) (l : List Int) (rex : Int) (r1 r2 r3 r4 r5 r6 r7 : Int) (r8 : Bool) (r9 r10 r11 : Int) (w : World) (hr : Kd.C (Kd.int .u8) w A l.length l) (hc : l.length ≤ c) (hwf : ∀ y ∈ l, 0 ≤ y ∧ y < 256) (hx : 0 ≤ rex ∧ rex < 256)
    (h : takeF l rex = (r1, r2, r3, r4, r5, r6, r7, r8, r9, r10, r11)) :
    Calls Tryd.prog 11 #[.slice A l.length c, .int .u8 rex] w fun e w' => e = .returned (.tuple #[.int .i64 r1, .agg #[.int .u8 r2, .int .i64 r3, .int .i64 r4, .int .i64 r5, .int .i64 r6, .int .i64 r7, .bool r8, .int .i64 r9], .int .i64 r10, .int .i64 r11]) ∧ Below w.heap.size w w' := by
  have HR := Aside0.mk hr
  have H := Aside0.mk h
  have HWF := Aside0.mk hwf
  clear hr h hwf
  refine calls_of_end Tryd.func11 rfl ?_
  simp only [Tryd.ntmps11, List.size_toArray, List.length_cons, List.length_nil, Nat.reduceAdd, Nat.reduceSub, Array.replicate_succ, Array.replicate_zero, List.push_toArray, List.append_toArray, List.nil_append, List.cons_append]
  go_wp2_with fail
  have b3 := World.alloc_heap_new w (.cells #[.int .u8 rex] 5)
  have b5 := World.alloc_heap_new (w.alloc (.cells #[.int .u8 rex] 5)) (.cells #[.int .u8 0, .int .i64 0, .int .i64 0, .int .i64 0, .int .i64 0, .int .i64 0, .bool false, .int .i64 0] 23)
  rw [World.size_alloc] at b5
  have b3' : ((w.alloc (.cells #[.int .u8 rex] 5)).alloc (.cells #[.int .u8 0, .int .i64 0, .int .i64 0, .int .i64 0, .int .i64 0, .int .i64 0, .bool false, .int .i64 0] 23)).heap[w.heap.size]? = _ := (Below.heap_alloc _ _ _ (Array.getElem?_eq_some_iff.1 b3).1).trans b3
  have hbl : Below w.heap.size w ((w.alloc (.cells #[.int .u8 rex] 5)).alloc (.cells #[.int .u8 0, .int .i64 0, .int .i64 0, .int .i64 0, .int .i64 0, .int .i64 0, .bool false, .int .i64 0] 23)) := bX_ (bX_ (Below.refl _ _) _) _
  have hsz : w.heap.size + 2 ≤ ((w.alloc (.cells #[.int .u8 rex] 5)).alloc (.cells #[.int .u8 0, .int .i64 0, .int .i64 0, .int .i64 0, .int .i64 0, .int .i64 0, .bool false, .int .i64 0] 23)).heap.size := by rw [World.size_alloc, World.size_alloc]; omega
  clear b3
  generalize (w.alloc (.cells #[.int .u8 rex] 5)).alloc (.cells #[.int .u8 0, .int .i64 0, .int .i64 0, .int .i64 0, .int .i64 0, .int .i64 0, .bool false, .int .i64 0] 23) = w1 at *
  have HC := Aside0.mk (Kd.C_below HR.out hbl)
  have c3 := (cell_of_block b3').1
  have B3 := Aside0.mk b3'
  have B5 := Aside0.mk b5
  have HB := Aside0.mk hbl
  have HSZ := Aside0.mk hsz
  clear b3' b5 hbl hsz
  go_step3
  go_wp2_with fail
  go_step3
  go_wp2_with fail
  refine wp_loop_once ?_
  by_cases h0 : l.length = 0
  · have e0 : decide ((0 : Int) < (l.length : Int)) = false := decide_eq_false (by omega)
    have H0 := H.out
    unfold takeF at H0
    rw [if_pos h0] at H0
    unfold failT at H0
    simp only [Prod.mk.injEq] at H0
    obtain ⟨rfl, rfl, rfl, rfl, rfl, rfl, rfl, rfl, rfl, rfl, rfl⟩ := H0
    clear H
    go_wp2_with fail
    obtain ⟨⟨q0, q1, q2, q3, q4, q5, q6, q7⟩, z0, z1, z2, z3, z4, z5, z6, z7⟩ := rows8 B5.out
    go_region
    obtain ⟨B5n, K5⟩ := set8 B5.out (.int .u8 0) (.int .i64 0) (.int .i64 0) (.int .i64 0) (.int .i64 0) (.int .i64 0) (.bool false) (.int .i64 0)
    clear q0 q1 q2 q3 q4 q5 q6 q7 z0 z1 z2 z3 z4 z5 z6 z7
    have hbf := HB.out.trans (K5.below HB.out.size (fun k hk he => by omega))
    clear K5
    generalize ((((((((w1.setCell ⟨w.heap.size + 1, 0, none⟩ (.int .u8 0)).setCell ⟨w.heap.size + 1, 1, none⟩ (.int .i64 0)).setCell ⟨w.heap.size + 1, 2, none⟩ (.int .i64 0)).setCell ⟨w.heap.size + 1, 3, none⟩ (.int .i64 0)).setCell ⟨w.heap.size + 1, 4, none⟩ (.int .i64 0)).setCell ⟨w.heap.size + 1, 5, none⟩ (.int .i64 0)).setCell ⟨w.heap.size + 1, 6, none⟩ (.bool false)).setCell ⟨w.heap.size + 1, 7, none⟩ (.int .i64 0)) = w4 at *
    have B5w : Aside0 (w4.drew.heap[w.heap.size + 1]? = some (.cells #[.int .u8 0, .int .i64 0, .int .i64 0, .int .i64 0, .int .i64 0, .int .i64 0, .bool false, .int .i64 0] 23 (0, 0))) := ⟨B5n⟩
    have HBF : Aside0 (Below w.heap.size w w4.drew) := ⟨hbf.trans ⟨rfl, rfl, rfl, Nat.le_refl _, fun _ _ => rfl⟩⟩
    clear hbf B5n
    generalize w4.drew = w5 at *
    go_wp2_with fail
    rw [Exit.noGoto_ret]
    exact end_plain rfl (results_take B5w.out rfl) ⟨rfl, HBF.out⟩
  · have e0 : decide ((0 : Int) < (l.length : Int)) = true := decide_eq_true (by omega)
    have hl0 : (0 : Int) < l.length := by omega
    obtain ⟨ad, hA, hcell⟩ := (Kd.reads_of_C (enc := Value.int .u8) (d := (0 : Int)) (h1 := fun _ => rfl) HC.out).2.2 (by omega)
    have c0 := hcell 0 (by omega)
    subst hA
    clear hcell
    obtain ⟨b0, hb0⟩ : ∃ b0, l.getD 0 0 = b0 := ⟨_, rfl⟩
    rw [hb0, show ad.add 0 = ad by simp [Addr.add]] at c0
    have HCELL : Aside0 (∀ W, Below w.heap.size w W → ∀ i, i < l.length → W.cell? (ad.add i) = some (.int .u8 (l.getD i 0))) := ⟨fun W hW i hi => by
      obtain ⟨ad', hA', hcell'⟩ := (Kd.reads_of_C (enc := Value.int .u8) (d := (0 : Int)) (h1 := fun _ => rfl) (Kd.C_below HR.out hW)).2.2 (by omega)
      cases hA'
      exact hcell' i hi⟩
    have hb0r : 0 ≤ b0 ∧ b0 < 256 := by rw [← hb0, List.getD_eq_getElem?_getD, List.getElem?_eq_getElem (by omega)]; exact HWF.out _ (List.getElem_mem _)
    go_upto_region 4 with (fail)
    go_quiet (fail)
    have c3' : (w1.drewN nq).cell? ⟨w.heap.size, 0, none⟩ = some (.int .u8 rex) := c3
    have B3' : Aside0 ((w1.drewN nq).heap[w.heap.size]? = some (.cells #[.int .u8 rex] 5)) := ⟨B3.out⟩
    have B5' : Aside0 ((w1.drewN nq).heap[w.heap.size + 1]? = some (.cells #[.int .u8 0, .int .i64 0, .int .i64 0, .int .i64 0, .int .i64 0, .int .i64 0, .bool false, .int .i64 0] 23)) := ⟨B5.out⟩
    have HB' : Aside0 (Below w.heap.size w (w1.drewN nq)) := ⟨HB.out.trans ⟨rfl, rfl, rfl, Nat.le_refl _, fun _ _ => rfl⟩⟩
    have HSZ' : Aside0 (w.heap.size + 2 ≤ (w1.drewN nq).heap.size) := ⟨HSZ.out⟩
    clear c3 B3 B5 HB HSZ HC c0
    generalize w1.drewN nq = w2 at *
    have hidx := fun W => idxW (b0 / 64) (by omega) (by omega) W
    obtain ⟨wd, hwd⟩ : ∃ x, wid (b0 / 64) = x := ⟨_, rfl⟩
    rw [hwd] at hidx
    go_upto_region 6 with (fail)
    clear hidx
    have bw := World.alloc_heap_new w2 (.cells #[.int .i64 wd] 3)
    have hs3 : (w2.alloc (.cells #[.int .i64 wd] 3)).heap.size = w2.heap.size + 1 := World.size_alloc _ _
    have HS3 : Aside0 (w.heap.size + 2 ≤ w2.heap.size ∧ (w2.alloc (.cells #[.int .i64 wd] 3)).heap.size = w2.heap.size + 1) := ⟨HSZ'.out, hs3⟩
    have hk3 : Below w2.heap.size w2 (w2.alloc (.cells #[.int .i64 wd] 3)) := bX_ (Below.refl _ _) _
    have BW := Aside0.mk bw
    have B33 := Aside0.mk (blk_below B3'.out hk3)
    have B53 := Aside0.mk (blk_below B5'.out hk3)
    have HB3 := Aside0.mk (HB'.out.trans (hk3.mono (by have := HSZ'.out; omega)))
    clear bw hs3 hk3 c3' B3' B5' HB' HSZ'
    generalize w2.heap.size = gw at *
    generalize w2.alloc (.cells #[.int .i64 wd] 3) = w3 at *
    have hc3 := (cell_of_block B33.out).1
    have hm0 := mo_eq rex hx.1 hx.2
    have hm1 := mo_eq (rex / 2) (by omega) (by omega)
    have hm2 := mo_eq (rex / 4) (by omega) (by omega)
    obtain ⟨m0, hM0⟩ : ∃ m0, mo rex = m0 := ⟨_, rfl⟩
    obtain ⟨m1, hM1⟩ : ∃ m1, mo (rex / 2) = m1 := ⟨_, rfl⟩
    obtain ⟨m2, hM2⟩ : ∃ m2, mo (rex / 4) = m2 := ⟨_, rfl⟩
    rw [hM0] at hm0
    rw [hM1] at hm1
    rw [hM2] at hm2
    replace hm0 : 0 ≤ m0 ∧ m0 ≤ 8 := by omega
    replace hm1 : 0 ≤ m1 ∧ m1 ≤ 8 := by omega
    replace hm2 : 0 ≤ m2 ∧ m2 ≤ 8 := by omega
    have hw0 : wrap64 (b0 % 8 + m0) = b0 % 8 + m0 := by unfold wrap64; omega
    have hMem : operand_Mem.f (b0 % 8 + m0) 0 = some (2, 0, b0 % 8 + m0, -1, 1, 0, false, 0) := by
      have : mx (b0 % 8 + m0) (-1) = b0 % 8 + m0 := by unfold mx; split <;> omega
      unfold operand_Mem.f
      rw [this]
    have m0c := fun W h => hM0 ▸ more0 w.heap.size rex W h
    go_upto_block 2 with (first
      | (go_at_call 28; refine (m0c w3 hc3).mono ?_; rintro e w' ⟨rfl, hw'⟩; replace hw' := hw'.symm; subst hw')
      | (go_at_call 21; refine (operand_Mem.calls (b0 % 8 + m0) 0 _ _ _ _ _ _ _ _ w3 hMem).mono ?_; rintro e w4 ⟨rfl, hb4⟩))
    have hbo := World.alloc_heap_new w4 (.cells #[.int .u8 2, .int .i64 0, .int .i64 (b0 % 8 + m0), .int .i64 (-1), .int .i64 1, .int .i64 0, .bool false, .int .i64 0] 23)
    have hs5 : (w4.alloc (.cells #[.int .u8 2, .int .i64 0, .int .i64 (b0 % 8 + m0), .int .i64 (-1), .int .i64 1, .int .i64 0, .bool false, .int .i64 0] 23)).heap.size = w4.heap.size + 1 := World.size_alloc _ _
    have hk5 : Below w4.heap.size w4 (w4.alloc (.cells #[.int .u8 2, .int .i64 0, .int .i64 (b0 % 8 + m0), .int .i64 (-1), .int .i64 1, .int .i64 0, .bool false, .int .i64 0] 23)) := bX_ (Below.refl _ _) _
    have hgs : w3.heap.size ≤ w4.heap.size := hb4.size
    have HK5 := Aside0.mk (hb4.trans (hk5.mono hgs))
    have BW5 := Aside0.mk (blk_below BW.out HK5.out)
    have B35 := Aside0.mk (blk_below B33.out HK5.out)
    have B55 := Aside0.mk (blk_below B53.out HK5.out)
    have HB5 := Aside0.mk (HB3.out.trans (HK5.out.mono (by have := HS3.out; omega)))
    have HS5 : Aside0 (w.heap.size + 2 ≤ gw ∧ gw < w4.heap.size ∧ (w4.alloc (.cells #[.int .u8 2, .int .i64 0, .int .i64 (b0 % 8 + m0), .int .i64 (-1), .int .i64 1, .int .i64 0, .bool false, .int .i64 0] 23)).heap.size = w4.heap.size + 1) := ⟨by have := HS3.out; omega, by have := HS3.out; omega, hs5⟩
    have BO5 := Aside0.mk hbo
    clear hbo hs5 hk5 hgs HK5 hb4 BW B33 B53 HB3 HS3 hc3
    generalize w4.heap.size = go at *
    generalize w4.alloc (.cells #[.int .u8 2, .int .i64 0, .int .i64 (b0 % 8 + m0), .int .i64 (-1), .int .i64 1, .int .i64 0, .bool false, .int .i64 0] 23) = w5 at *
    have H0 := H.out
    unfold takeF at H0
    rw [if_neg h0] at H0
    simp only [hb0, hwd, hM0, hM1] at H0
    have H1 := Aside0.mk H0
    have HM1 := Aside0.mk hM1
    have HM2 := Aside0.mk hM2
    have HM0 := Aside0.mk hM0
    have HWD := Aside0.mk hwd
    have HB0 := Aside0.mk hb0
    clear H0 hM0 hM1 hM2 hwd hMem hb0 m0c
    go_cut [13] from 17 to 103 (fun v13 wc => ∃ (used wd' k R base idx sc : Int) (rip : Bool), v13 = .int .i64 used ∧ Aside0 (takeRest l rex used wd' k R base idx sc rip = (r1, r2, r3, r4, r5, r6, r7, r8, r9, r10, r11)) ∧ Aside0 ((used = 1 ∨ used = 2) ∧ (wd' = 0 ∨ wd' = 1 ∨ wd' = 4)) ∧ Aside0 (wc.heap[gw]? = some (.cells #[.int .i64 wd'] 3)) ∧ Aside0 (wc.heap[go]? = some (.cells #[.int .u8 k, .int .i64 R, .int .i64 base, .int .i64 idx, .int .i64 sc, .int .i64 0, .bool rip, .int .i64 0] 23)) ∧ Aside0 (wc.heap[w.heap.size]? = some (.cells #[.int .u8 rex] 5)) ∧ Aside0 (wc.heap[w.heap.size + 1]? = some (.cells #[.int .u8 0, .int .i64 0, .int .i64 0, .int .i64 0, .int .i64 0, .int .i64 0, .bool false, .int .i64 0] 23)) ∧ Aside0 (Below w.heap.size w wc) ∧ Aside0 (go < wc.heap.size))
    case first =>
      have hc5 := (cell_of_block B35.out).1
      obtain ⟨⟨q0, q1, q2, q3, q4, q5, q6, q7⟩, z0, z1, z2, z3, z4, z5, z6, z7⟩ := rows8 BO5.out
      obtain ⟨qw, zw⟩ := cell_of_block BW5.out
      by_cases c3 : b0 / 64 = 3
      · have e3 : (b0 / 64 == 3) = true := by simp [c3]
        have hM := HM0.out
        have H2 := H1.out
        rw [if_pos c3] at H2
        have HW0 : Aside0 (wd = 0) := ⟨by rw [← HWD.out, c3]; rfl⟩
        clear q0 q1 q2 q3 q4 q5 q6 q7 z0 z1 z2 z3 z4 z5 z6 z7 qw zw
        have H2 := Aside0.mk H2
        clear c3
        go_wp2_with (first
          | (go_at_call 28; refine (more0 w.heap.size rex w5 hc5).mono ?_; rintro e w' ⟨rfl, hw'⟩; replace hw' := hw'.symm; subst hw')
          | (go_at_call 19; refine (operand_Reg.calls (b0 % 8 + m0) _ _ _ _ _ _ _ _ w5 rfl).mono ?_; rintro e w6 ⟨rfl, hb6⟩; have BO6 := Aside0.mk (blk_below BO5.out hb6); obtain ⟨⟨q0, q1, q2, q3, q4, q5, q6, q7⟩, z0, z1, z2, z3, z4, z5, z6, z7⟩ := rows8 BO6.out))
        obtain ⟨B7, K7⟩ := set8 BO6.out (.int .u8 1) (.int .i64 (b0 % 8 + m0)) (.int .i64 (-1)) (.int .i64 (-1)) (.int .i64 0) (.int .i64 0) (.bool false) (.int .i64 0)
        clear q0 q1 q2 q3 q4 q5 q6 q7 z0 z1 z2 z3 z4 z5 z6 z7
        have K67 : Keeps (fun k => k = go) w5 _ := (Keeps.of_below hb6 (fun k hk _ => hk)).trans (S := fun k => k = go) K7
        go_meet
        case rel => exact ⟨1, wd, 1, b0 % 8 + m0, -1, -1, 0, false, rfl, ⟨H2.out⟩, ⟨.inl rfl, .inl HW0.out⟩, ⟨K67.at_ BW5.out (by have := HS5.out; omega)⟩, ⟨B7⟩, ⟨K67.at_ B35.out (by have := HS5.out; omega)⟩, ⟨K67.at_ B55.out (by have := HS5.out; omega)⟩, ⟨HB5.out.trans (K67.below (by have := HS5.out; omega) (fun k hk => by have := HS5.out; omega))⟩, ⟨by have := K67.size; have := HS5.out; omega⟩⟩
      · have e3 : (b0 / 64 == 3) = false := beq_eq_false_iff_ne.mpr c3
        have H2 := H1.out
        rw [if_neg c3] at H2
        clear c3
        by_cases c4 : b0 % 8 = 4
        · have e4 : (b0 % 8 == 4) = true := by simp [c4]
          rw [if_pos c4] at H2
          clear c4
          by_cases c2 : l.length < 2
          · have e2 : decide ((l.length : Int) < 2) = true := decide_eq_true (by omega)
            rw [if_pos c2] at H2
            unfold failT at H2
            simp only [Prod.mk.injEq] at H2
            obtain ⟨rfl, rfl, rfl, rfl, rfl, rfl, rfl, rfl, rfl, rfl, rfl⟩ := H2
            clear q0 q1 q2 q3 q4 q5 q6 q7 z0 z1 z2 z3 z4 z5 z6 z7 H H1
            go_wp2_with fail
            obtain ⟨⟨q0, q1, q2, q3, q4, q5, q6, q7⟩, z0, z1, z2, z3, z4, z5, z6, z7⟩ := rows8 B55.out
            go_region
            obtain ⟨B5n, K5⟩ := set8 B55.out (.int .u8 0) (.int .i64 0) (.int .i64 0) (.int .i64 0) (.int .i64 0) (.int .i64 0) (.bool false) (.int .i64 0)
            clear q0 q1 q2 q3 q4 q5 q6 q7 z0 z1 z2 z3 z4 z5 z6 z7
            have hbf := HB5.out.trans (K5.below HB5.out.size (fun k hk he => by omega))
            clear K5
            generalize ((((((((w5.setCell ⟨w.heap.size + 1, 0, none⟩ (.int .u8 0)).setCell ⟨w.heap.size + 1, 1, none⟩ (.int .i64 0)).setCell ⟨w.heap.size + 1, 2, none⟩ (.int .i64 0)).setCell ⟨w.heap.size + 1, 3, none⟩ (.int .i64 0)).setCell ⟨w.heap.size + 1, 4, none⟩ (.int .i64 0)).setCell ⟨w.heap.size + 1, 5, none⟩ (.int .i64 0)).setCell ⟨w.heap.size + 1, 6, none⟩ (.bool false)).setCell ⟨w.heap.size + 1, 7, none⟩ (.int .i64 0)) = w6 at *
            have B5w : Aside0 (w6.drew.heap[w.heap.size + 1]? = some (.cells #[.int .u8 0, .int .i64 0, .int .i64 0, .int .i64 0, .int .i64 0, .int .i64 0, .bool false, .int .i64 0] 23 (0, 0))) := ⟨B5n⟩
            have HBF : Aside0 (Below w.heap.size w w6.drew) := ⟨hbf.trans ⟨rfl, rfl, rfl, Nat.le_refl _, fun _ _ => rfl⟩⟩
            clear hbf B5n
            generalize w6.drew = w7 at *
            go_wp2_with fail
            rw [Exit.noGoto_ret]
            exact end_plain rfl (results_take B5w.out rfl) ⟨rfl, HBF.out⟩
          · have e2 : decide ((l.length : Int) < 2) = false := decide_eq_false (by omega)
            have hl1 : (1 : Int) < l.length := by omega
            rw [if_neg c2] at H2
            have c1 := HCELL.out w5 HB5.out 1 (by omega)
            obtain ⟨b1, hb1⟩ : ∃ b1, l.getD 1 0 = b1 := ⟨_, rfl⟩
            rw [hb1] at c1 H2
            replace c1 : w5.cell? ⟨ad.block, ad.off + 1, none⟩ = some (.int .u8 b1) := by simpa [Addr.add] using c1
            have hb1r : 0 ≤ b1 ∧ b1 < 256 := by rw [← hb1, List.getD_eq_getElem?_getD, List.getElem?_eq_getElem (by omega)]; exact HWF.out _ (List.getElem_mem _)
            have H3 := Aside0.mk H2
            have HB1 := Aside0.mk hb1
            clear H2 hb1
            have hw1 := sib_base64 b1 m0 hb1r.1 hb1r.2 hm0.1 hm0.2
            have hM := HM0.out
            have HV := Aside0.mk (sib_base b1 m0 hb1r.1 hb1r.2 hm0.1 hm0.2)
            clear hw1 hw0
            go_upto_region 12 with (fail)
            go_cut [] from 17 to 65 (fun wc => Aside0 (wc.heap[go]? = some (.cells #[.int .u8 2, .int .i64 0, .int .i64 (b1 % 8 + m0), .int .i64 (-1), .int .i64 1, .int .i64 0, .bool false, .int .i64 0] 23)) ∧ Aside0 (Keeps (fun k => k = go) w5 wc))
            case first =>
              have hv := HV.out
              go_region_with (go_at_call 28; refine (more0 w.heap.size rex w5.drew hc5).mono ?_; rintro e w' ⟨rfl, hw'⟩; replace hw' := hw'.symm; subst hw')
              all_goals go_wp2
              all_goals go_meet
              all_goals exact ⟨⟨set_2 BO5.out (.int .i64 (b1 % 8 + m0))⟩, ⟨((Keeps.refl (fun k => k = go) w5).setCell _ _ rfl).drew⟩⟩
            case rest =>
              obtain ⟨BOa, Ka⟩ := hcut
              generalize wc = wa at *
              clear q0 q1 q2 q3 q4 q5 q6 q7 z0 z1 z2 z3 z4 z5 z6 z7 hc5 qw zw c1
              have hcc := (cell_of_block (Ka.out.at_ B35.out (by have := HS5.out; omega))).1
              have HBa : Aside0 (Below w.heap.size w wa) := ⟨HB5.out.trans (Ka.out.below (by have := HS5.out; omega) (fun k hk => by have := HS5.out; omega))⟩
              have m1c : ∀ n, Calls Tryd.prog 28 #[.int .i64 1, .pointer (some ⟨w.heap.size, 0, none⟩)] (wa.drewN n) fun e w'' => e = .returned (.int .i64 m1) ∧ ∃ m, w'' = wa.drewN m := fun n => Calls.quiet_of_same (HM1.out ▸ more1 w.heap.size rex (wa.drewN n) hcc)
              have M1C := Aside0.mk m1c
              clear m1c hcc
              have c1 := HCELL.out wa HBa.out 1 (by omega)
              rw [HB1.out] at c1
              replace c1 : wa.cell? ⟨ad.block, ad.off + 1, none⟩ = some (.int .u8 b1) := by simpa [Addr.add] using c1
              have hwx : wrap64 (b1 / 8 % 8 + m1) = b1 / 8 % 8 + m1 := by unfold wrap64; omega
              go_upto_region 13 with (fail)
              go_quiet (exact M1C.out _)
              have BOb : Aside0 ((wa.drewN nq).heap[go]? = _) := ⟨BOa.out⟩
              have Kb := Aside0.mk (Ka.out.drewN nq)
              clear BOa Ka HBa M1C c1
              generalize wa.drewN nq = wb at *
              obtain ⟨x, hxx⟩ : ∃ x, b1 / 8 % 8 + m1 = x := ⟨_, rfl⟩
              have HXR : Aside0 (0 ≤ x ∧ x < 16) := ⟨by omega⟩
              rw [hxx] at H3 hwx
              go_upto_if 76 with (fail)
              go_cut [] from 17 to 84 (fun wc => Aside0 (wc.heap[go]? = some (.cells #[.int .u8 2, .int .i64 0, .int .i64 (b1 % 8 + m0), .int .i64 (if x = 4 then -1 else x), .int .i64 (if x = 4 then 1 else 2 ^ (b1 / 64).toNat), .int .i64 0, .bool false, .int .i64 0] 23)) ∧ Aside0 (Keeps (fun k => k = go) w5 wc))
              case first =>
                by_cases cx : x = 4
                · have ex : (x != 4) = false := by simp [cx]
                  have CX := Aside0.mk cx
                  clear cx
                  go_wp2_with fail
                  go_meet
                  case rel => rw [if_pos CX.out, if_pos CX.out]; exact ⟨BOb, Kb⟩
                · have ex : (x != 4) = true := bne_iff_ne.mpr cx
                  have CX := Aside0.mk cx
                  clear cx
                  obtain ⟨⟨q0, q1, q2, q3, q4, q5, q6, q7⟩, z0, z1, z2, z3, z4, z5, z6, z7⟩ := rows8 BOb.out
                  have c1s := HCELL.out (wb.setCell ⟨go, 3, none⟩ (.int .i64 x)) (HB5.out.trans ((Kb.out.setCell ⟨go, 3, none⟩ (.int .i64 x) rfl).below (by have := HS5.out; omega) (fun k hk => by have := HS5.out; omega))) 1 (by omega)
                  rw [HB1.out] at c1s
                  replace c1s : (wb.setCell ⟨go, 3, none⟩ (.int .i64 x)).cell? ⟨ad.block, ad.off + 1, none⟩ = some (.int .u8 b1) := by simpa [Addr.add] using c1s
                  have c1 := HCELL.out wb (HB5.out.trans (Kb.out.below (by have := HS5.out; omega) (fun k hk => by have := HS5.out; omega))) 1 (by omega)
                  rw [HB1.out] at c1
                  replace c1 : wb.cell? ⟨ad.block, ad.off + 1, none⟩ = some (.int .u8 b1) := by simpa [Addr.add] using c1
                  clear hwx
                  go_upto_region 15 with (fail)
                  have hs4 : b1 / 64 = 0 ∨ b1 / 64 = 1 ∨ b1 / 64 = 2 ∨ b1 / 64 = 3 := by omega
                  rcases hs4 with hs64 | hs64 | hs64 | hs64
                  · go_region
                    all_goals go_wp2
                    all_goals go_meet
                    all_goals rw [if_neg CX.out, if_neg CX.out, show (2 : Int) ^ (b1 / 64).toNat = 1 by rw [hs64]; rfl]
                    all_goals exact ⟨⟨set_34 BOb.out (.int .i64 x) (.int .i64 1)⟩, ⟨((Kb.out.setCell ⟨go, 3, none⟩ _ rfl).setCell ⟨go, 4, none⟩ _ rfl).drew⟩⟩
                  · go_region
                    all_goals go_wp2
                    all_goals go_meet
                    all_goals rw [if_neg CX.out, if_neg CX.out, show (2 : Int) ^ (b1 / 64).toNat = 2 by rw [hs64]; rfl]
                    all_goals exact ⟨⟨set_34 BOb.out (.int .i64 x) (.int .i64 2)⟩, ⟨((Kb.out.setCell ⟨go, 3, none⟩ _ rfl).setCell ⟨go, 4, none⟩ _ rfl).drew⟩⟩
                  · go_region
                    all_goals go_wp2
                    all_goals go_meet
                    all_goals rw [if_neg CX.out, if_neg CX.out, show (2 : Int) ^ (b1 / 64).toNat = 4 by rw [hs64]; rfl]
                    all_goals exact ⟨⟨set_34 BOb.out (.int .i64 x) (.int .i64 4)⟩, ⟨((Kb.out.setCell ⟨go, 3, none⟩ _ rfl).setCell ⟨go, 4, none⟩ _ rfl).drew⟩⟩
                  · go_region
                    all_goals go_wp2
                    all_goals go_meet
                    all_goals rw [if_neg CX.out, if_neg CX.out, show (2 : Int) ^ (b1 / 64).toNat = 8 by rw [hs64]; rfl]
                    all_goals exact ⟨⟨set_34 BOb.out (.int .i64 x) (.int .i64 8)⟩, ⟨((Kb.out.setCell ⟨go, 3, none⟩ _ rfl).setCell ⟨go, 4, none⟩ _ rfl).drew⟩⟩
              case rest =>
                obtain ⟨BOc, Kc⟩ := hcut
                generalize wc = wy at *
                clear BOb Kb hwx hxx
                have HBc : Aside0 (Below w.heap.size w wy) := ⟨HB5.out.trans (Kc.out.below (by have := HS5.out; omega) (fun k hk => by have := HS5.out; omega))⟩
                have BWc : Aside0 (wy.heap[gw]? = some (.cells #[.int .i64 wd] 3)) := ⟨Kc.out.at_ BW5.out (by have := HS5.out; omega)⟩
                obtain ⟨qw, zw⟩ := cell_of_block BWc.out
                have c1 := HCELL.out wy HBc.out 1 (by omega)
                rw [HB1.out] at c1
                replace c1 : wy.cell? ⟨ad.block, ad.off + 1, none⟩ = some (.int .u8 b1) := by simpa [Addr.add] using c1
                obtain ⟨⟨q0, q1, q2, q3, q4, q5, q6, q7⟩, z0, z1, z2, z3, z4, z5, z6, z7⟩ := rows8 BOc.out
                by_cases c7 : b1 % 8 = 5
                · have e7 : (b1 % 8 == 5) = true := by simp [c7]
                  by_cases c6 : b0 / 64 = 0
                  · have e6 : (b0 / 64 == 0) = true := by simp [c6]
                    have H4 := H3.out
                    rw [if_pos ⟨c7, c6⟩] at H4
                    have H5 := Aside0.mk H4
                    clear c7 c6 H4
                    go_wp2_with fail
                    go_meet
                    case rel => exact ⟨2, 4, 2, 0, -1, _, _, false, rfl, H5, ⟨.inr rfl, .inr (.inr rfl)⟩, ⟨blk_store (blk_far BWc.out (p := ⟨go, 2, none⟩) (by have := HS5.out; show gw ≠ go; omega) _) _⟩, ⟨blk_far (set_2 BOc.out (.int .i64 (-1))) (p := ⟨gw, 0, none⟩) (by have := HS5.out; show go ≠ gw; omega) _⟩, by
                      have K2 : Keeps (fun k => k = go ∨ k = gw) w5 ((wy.setCell ⟨go, 2, none⟩ (.int .i64 (-1))).setCell ⟨gw, 0, none⟩ (.int .i64 4)) := ((Kc.out.mono (fun _ _ h => .inl h)).setCell _ _ (.inl rfl)).setCell _ _ (.inr rfl)
                      have := HS5.out
                      exact ⟨⟨K2.at_ B35.out (by omega)⟩, ⟨K2.at_ B55.out (by omega)⟩, ⟨HB5.out.trans (K2.below (by omega) (fun k hk => by omega))⟩, ⟨by have := K2.size; omega⟩⟩⟩
                  · have e6 : (b0 / 64 == 0) = false := beq_eq_false_iff_ne.mpr c6
                    have H4 := H3.out
                    rw [if_neg (fun h => c6 h.2)] at H4
                    have H5 := Aside0.mk H4
                    have HW4 : Aside0 (wd = 0 ∨ wd = 1 ∨ wd = 4) := ⟨by rw [← HWD.out]; unfold wid; split; exact .inr (.inl rfl); split; exact .inr (.inr rfl); exact .inl rfl⟩
                    clear c7 c6 H4
                    go_wp2_with fail
                    go_meet
                    case rel => exact ⟨2, wd, 2, 0, b1 % 8 + m0, _, _, false, rfl, H5, ⟨.inr rfl, HW4.out⟩, BWc, BOc, by
                      have := HS5.out
                      exact ⟨⟨Kc.out.at_ B35.out (by omega)⟩, ⟨Kc.out.at_ B55.out (by omega)⟩, HBc, ⟨by have := Kc.out.size; omega⟩⟩⟩
                · have e7 : (b1 % 8 == 5) = false := beq_eq_false_iff_ne.mpr c7
                  have H4 := H3.out
                  rw [if_neg (fun h => c7 h.1)] at H4
                  have H5 := Aside0.mk H4
                  have HW4 : Aside0 (wd = 0 ∨ wd = 1 ∨ wd = 4) := ⟨by rw [← HWD.out]; unfold wid; split; exact .inr (.inl rfl); split; exact .inr (.inr rfl); exact .inl rfl⟩
                  clear c7 H4
                  go_wp2_with fail
                  go_meet
                  case rel => exact ⟨2, wd, 2, 0, b1 % 8 + m0, _, _, false, rfl, H5, ⟨.inr rfl, HW4.out⟩, BWc, BOc, by
                    have := HS5.out
                    exact ⟨⟨Kc.out.at_ B35.out (by omega)⟩, ⟨Kc.out.at_ B55.out (by omega)⟩, HBc, ⟨by have := Kc.out.size; omega⟩⟩⟩
        · have e4 : (b0 % 8 == 4) = false := beq_eq_false_iff_ne.mpr c4
          rw [if_neg c4] at H2
          clear c4
          by_cases c5 : b0 % 8 = 5
          · have e5 : (b0 % 8 == 5) = true := by simp [c5]
            by_cases c6 : b0 / 64 = 0
            · have e6 : (b0 / 64 == 0) = true := by simp [c6]
              rw [if_pos ⟨c5, c6⟩] at H2
              clear c5 c6
              have H3 := Aside0.mk H2
              clear H2
              go_wp2_with fail
              go_meet
              case rel => exact ⟨1, 4, 2, 0, -1, -1, 1, true, rfl, H3, ⟨.inl rfl, .inr (.inr rfl)⟩, ⟨blk_store (blk_far (blk_far BW5.out (p := ⟨go, 2, none⟩) (by have := HS5.out; show gw ≠ go; omega) _) (p := ⟨go, 6, none⟩) (by have := HS5.out; show gw ≠ go; omega) _) _⟩, ⟨blk_far (set_26 BO5.out (.int .i64 (-1)) (.bool true)) (p := ⟨gw, 0, none⟩) (by have := HS5.out; show go ≠ gw; omega) _⟩, by
                have K2 : Keeps (fun k => k = go ∨ k = gw) w5 (((w5.setCell ⟨go, 2, none⟩ (.int .i64 (-1))).setCell ⟨go, 6, none⟩ (.bool true)).setCell ⟨gw, 0, none⟩ (.int .i64 4)) := (((Keeps.refl (fun k => k = go ∨ k = gw) w5).setCell _ _ (.inl rfl)).setCell _ _ (.inl rfl)).setCell _ _ (.inr rfl)
                have := HS5.out
                exact ⟨⟨K2.at_ B35.out (by omega)⟩, ⟨K2.at_ B55.out (by omega)⟩, ⟨HB5.out.trans (K2.below (by omega) (fun k hk => by omega))⟩, ⟨by have := K2.size; omega⟩⟩⟩
            · have e6 : (b0 / 64 == 0) = false := beq_eq_false_iff_ne.mpr c6
              rw [if_neg (fun h => c6 h.2)] at H2
              clear c5
              have H3 := Aside0.mk H2
              have HW4 : Aside0 (wd = 0 ∨ wd = 1 ∨ wd = 4) := ⟨by rw [← HWD.out]; unfold wid; split; exact .inr (.inl rfl); split; exact .inr (.inr rfl); exact .inl rfl⟩
              clear H2 c6
              go_wp2_with fail
              go_meet
              case rel => exact ⟨1, wd, 2, 0, b0 % 8 + m0, -1, 1, false, rfl, ⟨H3.out⟩, ⟨.inl rfl, HW4.out⟩, BW5, BO5, B35, B55, HB5, ⟨by have := HS5.out; omega⟩⟩
          · have e5 : (b0 % 8 == 5) = false := beq_eq_false_iff_ne.mpr c5
            rw [if_neg (fun h => c5 h.1)] at H2
            clear c5
            have H3 := Aside0.mk H2
            have HW4 : Aside0 (wd = 0 ∨ wd = 1 ∨ wd = 4) := ⟨by rw [← HWD.out]; unfold wid; split; exact .inr (.inl rfl); split; exact .inr (.inr rfl); exact .inl rfl⟩
            clear H2
            go_wp2_with fail
            go_meet
            case rel => exact ⟨1, wd, 2, 0, b0 % 8 + m0, -1, 1, false, rfl, ⟨H3.out⟩, ⟨.inl rfl, HW4.out⟩, BW5, BO5, B35, B55, HB5, ⟨by have := HS5.out; omega⟩⟩
    case rest =>
      obtain ⟨used, wd', k, R, base, idx, sc, rip, rfl, H2, HUW, BWt, BOt, B3t, B5t, HBt, HSt⟩ := hcut
      generalize wc = wt at *
      clear BW5 B35 B55 HB5 BO5 H1
      have hws : wrap64 (used + wd') = used + wd' := by have := HUW.out; unfold wrap64; omega
      obtain ⟨qw, zw⟩ := cell_of_block BWt.out
      by_cases cl : (l.length : Int) < used + wd'
      · have e7 : decide ((l.length : Int) < used + wd') = true := decide_eq_true cl
        have H3 := H2.out
        unfold takeRest failT at H3
        rw [if_pos cl] at H3
        simp only [Prod.mk.injEq] at H3
        obtain ⟨rfl, rfl, rfl, rfl, rfl, rfl, rfl, rfl, rfl, rfl, rfl⟩ := H3
        clear cl
        go_wp2_with fail
        obtain ⟨⟨q0, q1, q2, q3, q4, q5, q6, q7⟩, z0, z1, z2, z3, z4, z5, z6, z7⟩ := rows8 B5t.out
        go_region
        obtain ⟨B5n, K5⟩ := set8 B5t.out (.int .u8 0) (.int .i64 0) (.int .i64 0) (.int .i64 0) (.int .i64 0) (.int .i64 0) (.bool false) (.int .i64 0)
        clear q0 q1 q2 q3 q4 q5 q6 q7 z0 z1 z2 z3 z4 z5 z6 z7
        have hbf := HBt.out.trans (K5.below HBt.out.size (fun k hk he => by omega))
        clear K5
        generalize ((((((((wt.setCell ⟨w.heap.size + 1, 0, none⟩ (.int .u8 0)).setCell ⟨w.heap.size + 1, 1, none⟩ (.int .i64 0)).setCell ⟨w.heap.size + 1, 2, none⟩ (.int .i64 0)).setCell ⟨w.heap.size + 1, 3, none⟩ (.int .i64 0)).setCell ⟨w.heap.size + 1, 4, none⟩ (.int .i64 0)).setCell ⟨w.heap.size + 1, 5, none⟩ (.int .i64 0)).setCell ⟨w.heap.size + 1, 6, none⟩ (.bool false)).setCell ⟨w.heap.size + 1, 7, none⟩ (.int .i64 0)) = w6 at *
        have B5w : Aside0 (w6.drew.heap[w.heap.size + 1]? = some (.cells #[.int .u8 0, .int .i64 0, .int .i64 0, .int .i64 0, .int .i64 0, .int .i64 0, .bool false, .int .i64 0] 23 (0, 0))) := ⟨B5n⟩
        have HBF : Aside0 (Below w.heap.size w w6.drew) := ⟨hbf.trans ⟨rfl, rfl, rfl, Nat.le_refl _, fun _ _ => rfl⟩⟩
        clear hbf B5n
        generalize w6.drew = w7 at *
        go_wp2_with fail
        rw [Exit.noGoto_ret]
        exact end_plain rfl (results_take B5w.out rfl) ⟨rfl, HBF.out⟩
      · have e7 : decide ((l.length : Int) < used + wd') = false := decide_eq_false cl
        have hcl : used + wd' ≤ (l.length : Int) := by omega
        clear cl
        have hb1 : (0 : Int) ≤ used := by have := HUW.out; omega
        have hb2 : used ≤ used + wd' := by have := HUW.out; omega
        have hb3 : used + wd' ≤ (c : Int) := by omega
        have HSL := Aside0.mk hc
        obtain ⟨xs, hxs⟩ : ∃ xs, (l.drop used.toNat).take wd'.toNat = xs := ⟨_, rfl⟩
        have hlen : (used + wd').toNat - used.toNat = xs.length := by rw [← hxs, List.length_take, List.length_drop]; have := HUW.out; omega
        go_upto_region 21 with (fail)
        go_cut [0, 116] from 17 to 116 (fun v0 v116 wc => ∃ (ad' : Addr) (c' : Nat), v0 = .slice (some ad) l.length c ∧ v116 = .func (.func 37) #[] #[.pointer (some ⟨wt.heap.size, 0, none⟩)] ∧ Aside0 (wc.heap[wt.heap.size]? = some (.cells #[.slice (some ad') xs.length c'] 24)) ∧ Aside0 (Below wt.heap.size wt wc) ∧ Aside0 ((xs.length = 0 ∨ ad' = ad.add used.toNat) ∧ ad'.block = ad.block))
        case first =>
          go_wp2_with (first | (go_at_call 29; (first | refine (backward_calls (some (ad.add used.toNat)) xs.length (c - used.toNat) wt).mono ?_ | refine (backward_calls (some ad) xs.length 0 wt).mono ?_); rintro e w6 ⟨rfl, hbs, hb6⟩))
          all_goals try (exfalso; omega)
          all_goals go_meet
          all_goals first | exact ⟨ad.add used.toNat, c - used.toNat, (by first | rfl | (congr 1; omega)), rfl, ⟨hbs⟩, ⟨hb6⟩, ⟨.inr rfl, block_add _ _⟩⟩ | exact ⟨ad, 0, (by first | rfl | (congr 1; omega)), rfl, ⟨hbs⟩, ⟨hb6⟩, ⟨.inl (by omega), rfl⟩⟩
        case rest =>
          obtain ⟨ad', c', rfl, rfl, HBS, HB6, HAD⟩ := hcut
          generalize wc = w6 at *
          have HG := HSt.out
          have hbsl : wt.heap.size < w6.heap.size := (Array.getElem?_eq_some_iff.1 HBS.out).1
          have BW6 : Aside0 (w6.heap[gw]? = some (.cells #[.int .i64 wd'] 3)) := ⟨blk_below BWt.out HB6.out⟩
          have BO6 : Aside0 (w6.heap[go]? = some (.cells #[.int .u8 k, .int .i64 R, .int .i64 base, .int .i64 idx, .int .i64 sc, .int .i64 0, .bool rip, .int .i64 0] 23)) := ⟨blk_below BOt.out HB6.out⟩
          have B36 : Aside0 (w6.heap[w.heap.size]? = some (.cells #[.int .u8 rex] 5)) := ⟨blk_below B3t.out HB6.out⟩
          have B56 : Aside0 (w6.heap[w.heap.size + 1]? = some (.cells #[.int .u8 0, .int .i64 0, .int .i64 0, .int .i64 0, .int .i64 0, .int .i64 0, .bool false, .int .i64 0] 23)) := ⟨blk_below B5t.out HB6.out⟩
          have HBw6 : Aside0 (Below w.heap.size w w6) := ⟨HBt.out.trans (HB6.out.mono HBt.out.size)⟩
          have hadw : ad.block < w.heap.size := World.block_lt_of_cell? w ad (by have := HCELL.out w (Below.refl _ _) 0 (by omega); rwa [show ad.add 0 = ad by simp [Addr.add]] at this)
          have hxl : xs.length ≤ 4 := by rw [← hlen]; have := HUW.out; omega
          have hxv : ∀ j, 0 ≤ xs.getD j 0 ∧ xs.getD j 0 < 256 := fun j => getD_range xs (fun y hy => HWF.out y (by rw [← hxs] at hy; exact List.mem_of_mem_drop (List.mem_of_mem_take hy))) j
          have HLEN := Aside0.mk hlen
          have HXS := Aside0.mk hxs
          have HXV := Aside0.mk hxv
          have HWS := Aside0.mk hws
          clear BWt BOt B3t B5t HBt HSt qw zw hxs hxv hws e7 hlen
          go_wp2_with fail
          refine wp_range_plain (α := Nat × Int) (gf := 37) rfl (fun _ _ => rfl) (encs := encB) (Q := fun _ => False) (R := fun k => k = go) (L := backL xs xs.length)
            (fun W hk => back_iter wt.heap.size ad' c' xs W (fun k => k = go) (hk.at_ HBS.out (fun h => h)) (by omega) (fun j hj => by
              rcases HAD.out.1 with e | e
              · omega
              · rw [e, add_add, HCELL.out W (HBw6.out.trans (hk.below HBw6.out.size (fun _ _ h => h))) _ (by have := HLEN.out; omega)]
                rw [← HXS.out, getD_part l used.toNat wd'.toNat j (by rw [HXS.out]; exact hj)]) (fun k hk' => by have := HS5.out; have := HAD.out.2; rw [hk']; omega)) (fun k h => h.elim) (fun k h => by omega) (fun _ => rfl)
            (fun pre W => W.heap[go]? = some (.cells #[.int .u8 k, .int .i64 R, .int .i64 base, .int .i64 idx, .int .i64 sc, .int .i64 (pre.foldl (dispStep wd') 0), .bool rip, .int .i64 0] 23 (0, 0)) ∧ Keeps (fun k => k = go ∨ w6.heap.size ≤ k) w6 W)
            (fun _ _ _ => False)
            (fun s A B hs' hk => ⟨hk.at_ hs'.1 (by rintro (h | h | h); exact h.elim; omega; omega), hs'.2.trans (hk.mono (fun k hk' h => by rcases h with h | h | h; exact h.elim; exact .inr (by omega); exact .inr (by omega)))⟩)
            (fun _ _ _ _ h _ => h.elim) ⟨BO6.out, Keeps.refl _ _⟩ ?_ ?assign ?body ?done ?stop
          case assign =>
            intro lp x W K hK
            simp only [encB]
            gi_wp2
            exact hK
          case stop =>
            intro c pre suf W _ h _
            exact h.elim
          case done =>
            rintro W ⟨hO, hKe⟩ hd
            have HO := Aside0.mk hO
            have HK := Aside0.mk hKe
            have HDD := Aside0.mk hd
            have HBW : Aside0 (Below w.heap.size w W) := ⟨HBw6.out.trans (hKe.below HBw6.out.size (fun k hk h => by have := HS5.out; omega))⟩
            have qc := HCELL.out W HBW.out 0 (by omega)
            rw [HB0.out, show ad.add 0 = ad by simp [Addr.add]] at qc
            have hm2' := more2 w.heap.size rex
            rw [HM2.out] at hm2'
            have q3 := (cell_of_block (hKe.at_ B36.out (by have := HS5.out; omega))).1
            have qw := (cell_of_block (hKe.at_ BW6.out (by have := HS5.out; omega))).1
            obtain ⟨⟨q0, q1, q2, q3', q4, q5, q6, q7⟩, -⟩ := rows8 hO
            obtain ⟨⟨p0, p1, p2, p3, p4, p5, p6, p7⟩, z0, z1, z2, z3, z4, z5, z6, z7⟩ := rows8 (hKe.at_ B56.out (by have := HS5.out; omega))
            clear hO hKe hd hw0
            go_upto_region 27 with (fail)
            have HW2 := Aside0.mk (wrap_small (used + wd') (by have := HUW.out; omega) (by have := HUW.out; omega))
            have H3 := H2.out
            unfold takeRest at H3
            rw [if_neg (show ¬ ((l.length : Int) < used + wd') by omega), HB0.out, HM2.out, HXS.out] at H3
            have HDF : dispOf wd' xs = (backL xs xs.length).foldl (dispStep wd') 0 := rfl
            rw [HDF] at H3
            simp only [Prod.mk.injEq] at H3
            obtain ⟨g1, g2, g3, g4, g5, g6, g7, g8, g9, g10, g11⟩ := H3
            have HG2 := Aside0.mk (And.intro g1 (And.intro g2 (And.intro g3 (And.intro g4 (And.intro g5 (And.intro g6 (And.intro g7 (And.intro g8 (And.intro g9 (And.intro g10 g11))))))))))
            clear g1 g2 g3 g4 g5 g6 g7 g8 g9 g10 g11 HDF
            have HBRM := Aside0.mk (HK.out.at_ B56.out (by have := HS5.out; omega))
            have HSZ6 := Aside0.mk (show w.heap.size + 1 < w6.heap.size by have := HS5.out; omega)
            have HV := Aside0.mk (sib_base (b0 / 8) m2 (by omega) (by omega) hm2.1 hm2.2)
            have n1 : go ≠ w.heap.size + 1 := by have := HS5.out; omega
            have n2 : gw ≠ w.heap.size + 1 := by have := HS5.out; omega
            have n4 : w.heap.size ≠ w.heap.size + 1 := by omega
            have n3 : ad.block ≠ w.heap.size + 1 := by omega
            have HCC := Aside0.mk (And.intro hc h0)
            clear hc hx h0 e0 hl0 hb0r hm0 hm1 hcl hb1 hb2 hb3 HG hbsl hadw hxl
            have n1 : w.heap.size + 1 ≠ go := Ne.symm n1
            have n2 : w.heap.size + 1 ≠ gw := Ne.symm n2
            have n3 : w.heap.size + 1 ≠ ad.block := Ne.symm n3
            go_region_held3 (fun w' => w'.cell? ad = some (.int .u8 b0) ∧ w'.cell? ⟨w.heap.size, 0, none⟩ = some (.int .u8 rex) ∧ w'.cell? ⟨gw, 0, none⟩ = some (.int .i64 wd') ∧ w'.cell? ⟨go, 0, none⟩ = some (.int .u8 k) ∧ w'.cell? ⟨go, 1, none⟩ = some (.int .i64 R) ∧ w'.cell? ⟨go, 2, none⟩ = some (.int .i64 base) ∧ w'.cell? ⟨go, 3, none⟩ = some (.int .i64 idx) ∧ w'.cell? ⟨go, 4, none⟩ = some (.int .i64 sc) ∧ w'.cell? ⟨go, 5, none⟩ = some (.int .i64 ((backL xs xs.length).foldl (dispStep wd') 0)) ∧ w'.cell? ⟨go, 6, none⟩ = some (.bool rip) ∧ w'.cell? ⟨go, 7, none⟩ = some (.int .i64 0)) (go_keep) (first | (go_at_call 28; refine (hm2' _ ?_).mono ?_; (simp [*]); rintro e w' ⟨rfl, rfl⟩))
            rw [HV.out, HW2.out]
            obtain ⟨g1, g2, g3, g4, g5, g6, g7, g8, g9, g10, g11⟩ := HG2.out
            rw [g1, g10]
            obtain ⟨BRn, KR⟩ := set8 HBRM.out (.int .u8 k) (.int .i64 R) (.int .i64 base) (.int .i64 idx) (.int .i64 sc) (.int .i64 ((backL xs xs.length).foldl (dispStep wd') 0)) (.bool rip) (.int .i64 0)
            clear q0 q1 q2 q3' q4 q5 q6 q7 p0 p1 p2 p3 p4 p5 p6 p7 z0 z1 z2 z3 z4 z5 z6 z7 q3 qw qc hm2'
            rw [g2, g3, g4, g5, g6, g7, g8, g9] at BRn
            rw [g2, g3, g4, g5, g6, g7, g8, g9]
            rw [g2, g3, g4, g5, g6, g7, g8, g9] at KR
            have HBR := Aside0.mk BRn
            have KRD := Aside0.mk KR.drew
            clear BRn KR g1 g2 g3 g4 g5 g6 g7 g8 g9 g10 g11
            generalize ((((((((W.setCell ⟨w.heap.size + 1, 0, none⟩ (.int .u8 r2)).setCell ⟨w.heap.size + 1, 1, none⟩ (.int .i64 r3)).setCell ⟨w.heap.size + 1, 2, none⟩ (.int .i64 r4)).setCell ⟨w.heap.size + 1, 3, none⟩ (.int .i64 r5)).setCell ⟨w.heap.size + 1, 4, none⟩ (.int .i64 r6)).setCell ⟨w.heap.size + 1, 5, none⟩ (.int .i64 r7)).setCell ⟨w.heap.size + 1, 6, none⟩ (.bool r8)).setCell ⟨w.heap.size + 1, 7, none⟩ (.int .i64 r9)) = w8 at *
            have HBR' : Aside0 (w8.drew.heap[w.heap.size + 1]? = some (.cells #[.int .u8 r2, .int .i64 r3, .int .i64 r4, .int .i64 r5, .int .i64 r6, .int .i64 r7, .bool r8, .int .i64 r9] 23 (0, 0))) := ⟨HBR.out⟩
            clear HBR
            generalize w8.drew = w9 at *
            go_wp2_with fail
            rw [Exit.noGoto_ret]
            have hE : r9 = r11 := by have := HG2.out; omega
            have hK9 : w9.heap[w6.heap.size]? = some (.deferred (some [])) := KRD.out.at_ HDD.out (by have := HSZ6.out; omega)
            have hkp : Keeps (fun k => k = w6.heap.size) w9 (w9.putObj w6.heap.size (.deferred none)) := (Keeps.refl _ _).putObj _ _ rfl
            refine end_mark (D := w6.heap.size) rfl hK9 (results_take (hkp.at_ HBR'.out (by have := HSZ6.out; omega)) rfl) ⟨?_, ?_⟩
            · rw [← hE]
              rfl
            · exact (HBW.out.trans (KRD.out.below HBW.out.size (fun k hk h => by omega))).trans (hkp.below (HBW.out.trans (KRD.out.below HBW.out.size (fun k hk h => by omega))).size (fun k hk h => by have := HSZ6.out; omega))
          case body =>
            rintro lp pre x suf W hLL hsz' ⟨hO, hKe⟩
            obtain ⟨m, hm, rfl⟩ := mem_backL xs x _ (by rw [hLL]; simp)
            obtain ⟨cv, hcv⟩ : ∃ cv, xs.getD m 0 = cv := ⟨_, rfl⟩
            have hcr := HXV.out m
            rw [hcv] at hcr hLL ⊢
            obtain ⟨d, hd⟩ : ∃ d, pre.foldl (dispStep wd') 0 = d := ⟨_, rfl⟩
            rw [hd] at hO
            have HO := Aside0.mk hO
            have HK := Aside0.mk hKe
            have HLL := Aside0.mk hLL
            have hwm : wrap64 (wd' - 1) = wd' - 1 := by have := HUW.out; unfold wrap64; omega
            obtain ⟨⟨q0, q1, q2, q3, q4, q5, q6, q7⟩, z0, z1, z2, z3, z4, z5, z6, z7⟩ := rows8 hO
            have qw := (cell_of_block (hKe.at_ BW6.out (by have := HS5.out; omega))).1
            have HCV := Aside0.mk hcv
            have HD := Aside0.mk hd
            clear hO hKe hLL hcv hd
            by_cases hi : (m : Int) = wd' - 1
            · have e8 : ((m : Int) == wd' - 1) = true := by simp [hi]
              have HI := Aside0.mk hi
              clear hi
              gi_wp2
              have hst : (pre ++ [(m, cv)]).foldl (dispStep wd') 0 = wrap64 (IntKind.i8.wrap cv) := by
                rw [List.foldl_append, HD.out]
                show dispStep wd' d (m, cv) = _
                unfold dispStep
                rw [if_pos HI.out]
              have HP : Aside0 _ := ⟨set_5 (set_5 HO.out (.int .i64 (Go.bits .or .i64 (wrap64 (d * 256)) cv))) (.int .i64 (wrap64 (IntKind.i8.wrap cv)))⟩
              refine ⟨((Keeps.refl _ _).setCell _ _ (.inl rfl)).setCell _ _ (.inl rfl), ?_, HK.out.trans (((Keeps.refl _ _).setCell _ _ (.inl rfl)).setCell _ _ (.inl rfl))⟩
              rw [hst]
              exact HP.out
            · have e8 : ((m : Int) == wd' - 1) = false := beq_eq_false_iff_ne.mpr hi
              have HI := Aside0.mk hi
              clear hi
              gi_wp2
              have hst : (pre ++ [(m, cv)]).foldl (dispStep wd') 0 = Go.bits .or .i64 (wrap64 (d * 256)) cv := by
                rw [List.foldl_append, HD.out]
                show dispStep wd' d (m, cv) = _
                unfold dispStep
                rw [if_neg HI.out]
              have HP : Aside0 _ := ⟨set_5 HO.out (.int .i64 (Go.bits .or .i64 (wrap64 (d * 256)) cv))⟩
              refine ⟨(Keeps.refl _ _).setCell _ _ (.inl rfl), ?_, HK.out.trans ((Keeps.refl _ _).setCell _ _ (.inl rfl))⟩
              rw [hst]
              exact HP.out
end Go.Proofs.YtppeidopijnnlaaDoor.B
namespace Go.Proofs.YtppeidopijnnlaaDoor.B
open Go.RowKit Go.Proofs.YtppeidopijnnlaaDoorW.PrintWords Go.Proofs.YtppeidopijnnlaaDoorW.PrintMore Go.RF
set_option linter.unusedVariables false
def takeO (l0 : List Int) (a1 : Int) : Option TakeT := if (∀ y ∈ l0, 0 ≤ y ∧ y < 256) ∧ 0 ≤ a1 ∧ a1 < 256 then some (takeF l0 a1) else none
noncomputable def G.Take : List Int → Int → Option TakeT := Classical.choose (⟨takeO, rfl⟩ : ∃ f : List Int → Int → Option TakeT, f = takeO)
theorem G.Take_eq : G.Take = takeO := Classical.choose_spec (⟨takeO, rfl⟩ : ∃ f : List Int → Int → Option TakeT, f = takeO)
theorem G.Take_calls (A0 : Option Addr) (c0 : Nat) (l0 : List Int) (a1 : Int) (r1 : Int) (r2 : Int) (r3 : Int) (r4 : Int) (r5 : Int) (r6 : Int) (r7 : Int) (r8 : Bool) (r9 : Int) (r10 : Int) (r11 : Int) (w : World) (hr0 : Kd.C (Kd.int .u8) w A0 l0.length l0) (hc0 : l0.length ≤ c0) (h : G.Take l0 a1 = some (r1, r2, r3, r4, r5, r6, r7, r8, r9, r10, r11)) :
    Calls Tryd.prog 11 #[.slice A0 l0.length c0, .int .u8 a1] w fun e w' => e = .returned (.tuple #[.int .i64 r1, .agg #[.int .u8 r2, .int .i64 r3, .int .i64 r4, .int .i64 r5, .int .i64 r6, .int .i64 r7, .bool r8, .int .i64 r9], .int .i64 r10, .int .i64 r11]) ∧ Below w.heap.size w w' := by
  rw [G.Take_eq] at h
  unfold takeO at h
  by_cases hp : (∀ y ∈ l0, 0 ≤ y ∧ y < 256) ∧ 0 ≤ a1 ∧ a1 < 256
  · rw [if_pos hp] at h
    exact take_calls A0 c0 l0 a1 r1 r2 r3 r4 r5 r6 r7 r8 r9 r10 r11 w hr0 hc0 hp.1 hp.2 (Option.some.inj h)
  · rw [if_neg hp] at h
    cases h
def putO (a0 : Int) (a1_0 : Int) (a1_1 : Int) (a1_2 : Int) (a1_3 : Int) (a1_4 : Int) (a1_5 : Int) (a1_6 : Bool) (a1_7 : Int) : Option (List Int × Int × Int) :=
  if a0 = 9 ∧ a1_0 = 2 ∧ a1_1 = 0 ∧ a1_2 = 4 ∧ a1_3 = -1 ∧ a1_4 = 1 ∧ a1_5 = 8 ∧ a1_6 = false ∧ a1_7 = 0 then some ([76, 36, 8], 4, 0) else none
noncomputable def G.Put : Int → Int → Int → Int → Int → Int → Int → Bool → Int → Option (List Int × Int × Int) := Classical.choose (⟨putO, rfl⟩ : ∃ f : Int → Int → Int → Int → Int → Int → Int → Bool → Int → Option (List Int × Int × Int), f = putO)
theorem G.Put_eq : G.Put = putO := Classical.choose_spec (⟨putO, rfl⟩ : ∃ f : Int → Int → Int → Int → Int → Int → Int → Bool → Int → Option (List Int × Int × Int), f = putO)
theorem G.Put_calls (a0 : Int) (a1_0 : Int) (a1_1 : Int) (a1_2 : Int) (a1_3 : Int) (a1_4 : Int) (a1_5 : Int) (a1_6 : Bool) (a1_7 : Int) (r1 : List Int) (r2 : Int) (r3 : Int) (w : World) (h : G.Put a0 a1_0 a1_1 a1_2 a1_3 a1_4 a1_5 a1_6 a1_7 = some (r1, r2, r3)) :
    Calls Tryd.prog 9 #[.int .i64 a0, .agg #[.int .u8 a1_0, .int .i64 a1_1, .int .i64 a1_2, .int .i64 a1_3, .int .i64 a1_4, .int .i64 a1_5, .bool a1_6, .int .i64 a1_7]] w fun e w' => ∃ v0_ : Value, e = .returned (.tuple #[v0_, .int .u8 r2, .int .i64 r3]) ∧ Kd.R (Kd.int .u8) 5 w' w.heap.size (fun _ => True) v0_ r1 ∧ Below w.heap.size w w' := by
  rw [G.Put_eq] at h
  unfold putO at h
  by_cases hp : a0 = 9 ∧ a1_0 = 2 ∧ a1_1 = 0 ∧ a1_2 = 4 ∧ a1_3 = -1 ∧ a1_4 = 1 ∧ a1_5 = 8 ∧ a1_6 = false ∧ a1_7 = 0
  · rw [if_pos hp] at h
    have h := Option.some.inj h
    simp only [Prod.mk.injEq] at h
    obtain ⟨rfl, rfl, rfl⟩ := h
    obtain ⟨rfl, rfl, rfl, rfl, rfl, rfl, rfl, rfl, rfl⟩ := hp
    exact put1_calls w
  · rw [if_neg hp] at h
    cases h
theorem wkConv {W : World} {b : Nat} {ok : Nat → Prop} {v : Value} {xs : List Int} (h : Kd.R (Kd.int .u8) 5 W b ok v xs) : (convert 24 9 v).run Tryd.prog W = .ok (.string (strOfNums xs)) W := by
  obtain ⟨A, c, rfl⟩ := Kd.R_slice h
  exact Kd.C_string Tryd.underlying24 Tryd.underlying5 Tryd.underlying9 (Kd.R_reads' h).2.2
theorem take_c1 : takeO [193] 0 = some (0, 1, 1, -1, -1, 0, 0, false, 0, 1, 0) := by kernel_rfl
theorem take_c2 : takeO [68, 36, 8, 99] 0 = some (0, 2, 0, 4, -1, 1, 8, false, 0, 3, 0) := by kernel_rfl
theorem take_c3 : takeO [] 0 = some (0, 0, 0, 0, 0, 0, 0, false, 0, 0, 80) := by kernel_rfl
theorem wkT1 {y : List Int} {t1 t2 t3 t4 t5 t6 t7 t9 t10 t11 : Int} {t8 : Bool} (hy : y = [193]) (h : G.Take y 0 = some (t1, t2, t3, t4, t5, t6, t7, t8, t9, t10, t11)) : t1 = 0 ∧ t2 = 1 ∧ t3 = 1 ∧ t4 = -1 ∧ t5 = -1 ∧ t6 = 0 ∧ t7 = 0 ∧ t8 = false ∧ t9 = 0 ∧ t10 = 1 ∧ t11 = 0 := by
  subst hy
  rw [G.Take_eq, take_c1] at h
  have h := Option.some.inj h
  simp only [Prod.mk.injEq] at h
  obtain ⟨rfl, rfl, rfl, rfl, rfl, rfl, rfl, rfl, rfl, rfl, rfl⟩ := h
  exact ⟨rfl, rfl, rfl, rfl, rfl, rfl, rfl, rfl, rfl, rfl, rfl⟩
theorem wkT2 {y : List Int} {t1 t2 t3 t4 t5 t6 t7 t9 t10 t11 : Int} {t8 : Bool} (hy : y = [68, 36, 8, 99]) (h : G.Take y 0 = some (t1, t2, t3, t4, t5, t6, t7, t8, t9, t10, t11)) : t1 = 0 ∧ t2 = 2 ∧ t3 = 0 ∧ t4 = 4 ∧ t5 = -1 ∧ t6 = 1 ∧ t7 = 8 ∧ t8 = false ∧ t9 = 0 ∧ t10 = 3 ∧ t11 = 0 := by
  subst hy
  rw [G.Take_eq, take_c2] at h
  have h := Option.some.inj h
  simp only [Prod.mk.injEq] at h
  obtain ⟨rfl, rfl, rfl, rfl, rfl, rfl, rfl, rfl, rfl, rfl, rfl⟩ := h
  exact ⟨rfl, rfl, rfl, rfl, rfl, rfl, rfl, rfl, rfl, rfl, rfl⟩
theorem wkP {a0 a1 a2 a3 a4 a5 a6 a8 : Int} {a7 : Bool} {r1 : List Int} {r2 r3 : Int} (h : G.Put a0 a1 a2 a3 a4 a5 a6 a7 a8 = some (r1, r2, r3)) : r1 = [76, 36, 8] ∧ r2 = 4 ∧ r3 = 0 := by
  rw [G.Put_eq] at h
  unfold putO at h
  split at h
  · have h := Option.some.inj h
    simp only [Prod.mk.injEq] at h
    exact ⟨h.1.symm, h.2.1.symm, h.2.2.symm⟩
  · cases h
theorem wkC16 {a0 a1 a2 a3 a4 a5 a6 a8 : Int} {a7 : Bool} {r1 : List Int} {r2 r3 : Int} (h : G.Put a0 a1 a2 a3 a4 a5 a6 a7 a8 = some (r1, r2, r3)) : (strOfNums r1).toList = ([76, 36, 8] : List UInt8) := by
  rw [(wkP h).1]
  first | kernel_rfl | decide | simp [strOfNums]
theorem wkC8 {y : List Int} {t1 t2 t3 t4 t5 t6 t7 t9 t10 t11 : Int} {t8 : Bool} {s1 s2 s3 s4 s5 s6 s8 : Int} {s7 : Bool} (hy : y = [193]) (h : G.Take y 0 = some (t1, t2, t3, t4, t5, t6, t7, t8, t9, t10, t11)) (h7 : operand_Reg.f 1 = some (s1, s2, s3, s4, s5, s6, s7, s8)) :
    (t2 == s1 && (t3 == s2 && (t4 == s3 && (t5 == s4 && (t6 == s5 && (t7 == s6 && (t8 == s7 && (t9 == s8)))))))) = true := by
  obtain ⟨rfl, rfl, rfl, rfl, rfl, rfl, rfl, rfl, rfl, rfl, rfl⟩ := wkT1 hy h
  have h7 := Option.some.inj h7
  simp only [Prod.mk.injEq] at h7
  obtain ⟨rfl, rfl, rfl, rfl, rfl, rfl, rfl, rfl⟩ := h7
  rfl
theorem wkC13 {y : List Int} {t1 t2 t3 t4 t5 t6 t7 t9 t10 t11 : Int} {t8 : Bool} {s1 s2 s3 s4 s5 s6 s8 : Int} {s7 : Bool} (hy : y = [68, 36, 8, 99]) (h : G.Take y 0 = some (t1, t2, t3, t4, t5, t6, t7, t8, t9, t10, t11)) (h7 : operand_Mem.f 4 8 = some (s1, s2, s3, s4, s5, s6, s7, s8)) :
    (t2 == s1 && (t3 == s2 && (t4 == s3 && (t5 == s4 && (t6 == s5 && (t7 == s6 && (t8 == s7 && (t9 == s8)))))))) = true := by
  obtain ⟨rfl, rfl, rfl, rfl, rfl, rfl, rfl, rfl, rfl, rfl, rfl⟩ := wkT2 hy h
  have h7 := Option.some.inj h7
  have hm : mx 4 (-1) = 4 := by decide
  rw [hm] at h7
  simp only [Prod.mk.injEq] at h7
  obtain ⟨rfl, rfl, rfl, rfl, rfl, rfl, rfl, rfl⟩ := h7
  rfl
end Go.Proofs.YtppeidopijnnlaaDoor.B
namespace Go.Proofs.YtppeidopijnnlaaDoor.B
open Go.RowKit Go.Proofs.YtppeidopijnnlaaDoorW.PrintWords Go.Proofs.YtppeidopijnnlaaDoorW.PrintLast Go.Proofs.YtppeidopijnnlaaDoorW.PrintMore
attribute [local go_sem] max2_int min2_int max_two min_two max_three min_three max_four min_four   -- for this text's walks alone
set_option linter.unusedVariables false
set_option linter.unusedSimpArgs false
noncomputable def operand_Put.f (a0 : Int) (a1_0 : Int) (a1_1 : Int) (a1_2 : Int) (a1_3 : Int) (a1_4 : Int) (a1_5 : Int) (a1_6 : Bool) (a1_7 : Int) : Option (List Int × Int × Int) := G.Put a0 a1_0 a1_1 a1_2 a1_3 a1_4 a1_5 a1_6 a1_7
theorem operand_Put.calls (a0 : Int) (a1_0 : Int) (a1_1 : Int) (a1_2 : Int) (a1_3 : Int) (a1_4 : Int) (a1_5 : Int) (a1_6 : Bool) (a1_7 : Int) (r1 : List Int) (r2 : Int) (r3 : Int) (w : World) (h : operand_Put.f a0 a1_0 a1_1 a1_2 a1_3 a1_4 a1_5 a1_6 a1_7 = some (r1, r2, r3)) :
    Calls Tryd.prog 9 #[.int .i64 a0, .agg #[.int .u8 a1_0, .int .i64 a1_1, .int .i64 a1_2, .int .i64 a1_3, .int .i64 a1_4, .int .i64 a1_5, .bool a1_6, .int .i64 a1_7]] w fun e w' => ∃ v0_ : Value, e = .returned (.tuple #[v0_, .int .u8 r2, .int .i64 r3]) ∧ Kd.R (Kd.int .u8) 5 w' w.heap.size (fun _ => True) v0_ r1 ∧ Below w.heap.size w w' :=
  G.Put_calls a0 a1_0 a1_1 a1_2 a1_3 a1_4 a1_5 a1_6 a1_7 r1 r2 r3 w h
noncomputable def operand_Take.f (l0 : List Int) (a1 : Int) : Option (Int × Int × Int × Int × Int × Int × Int × Bool × Int × Int × Int) := G.Take l0 a1
theorem operand_Take.calls (A0 : Option Addr) (c0 : Nat) (l0 : List Int) (a1 : Int) (r1 : Int) (r2 : Int) (r3 : Int) (r4 : Int) (r5 : Int) (r6 : Int) (r7 : Int) (r8 : Bool) (r9 : Int) (r10 : Int) (r11 : Int) (w : World) (hr0 : Kd.C (Kd.int .u8) w A0 l0.length l0) (hc0 : l0.length ≤ c0) (h : operand_Take.f l0 a1 = some (r1, r2, r3, r4, r5, r6, r7, r8, r9, r10, r11)) :
    Calls Tryd.prog 11 #[.slice A0 l0.length c0, .int .u8 a1] w fun e w' => e = .returned (.tuple #[.int .i64 r1, .agg #[.int .u8 r2, .int .i64 r3, .int .i64 r4, .int .i64 r5, .int .i64 r6, .int .i64 r7, .bool r8, .int .i64 r9], .int .i64 r10, .int .i64 r11]) ∧ Below w.heap.size w w' :=
  G.Take_calls A0 c0 l0 a1 r1 r2 r3 r4 r5 r6 r7 r8 r9 r10 r11 w hr0 hc0 h
end Go.Proofs.YtppeidopijnnlaaDoor.B
