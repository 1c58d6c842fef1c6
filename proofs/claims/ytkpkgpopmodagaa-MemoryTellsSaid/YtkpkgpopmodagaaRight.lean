import Derived.Test.YtkpkgpopmodagaaFind
import Derived.Outline
namespace Go.Proofs.Ytkpkgpopmodagaa.B
open Go.RowKit Go.Proofs.YtkpkgpopmodagaaW.PrintWords Go.Proofs.YtkpkgpopmodagaaW.PrintLast Go.Proofs.YtkpkgpopmodagaaW.PrintMore
set_option linter.unusedVariables false
set_option linter.unusedSimpArgs false
/-- may a page be, behind one that stands at 'prev' (if there is one) -/
def pageB (first : Bool) (prev : Int) (x : S34) : Bool := decide (x.f0.tmod 4096 = 0) && (decide (x.f2.length = 4096) && (decide (x.f1 < 8) && (decide (Go.bits .and .u8 x.f1 3 ≠ 3) && (first || decide (prev < x.f0)))))
def rightFrom : Bool → Int → List S34 → Bool
  | _, _, [] => true
  | first, prev, x :: r => pageB first prev x && rightFrom false x.f0 r
def rightP (l : List S34) : Bool := decide ((l.length : Int) ≤ 16) && rightFrom true 0 l

theorem rightFrom_true (p q : Int) (l : List S34) : rightFrom true p l = rightFrom true q l := by cases l <;> simp [rightFrom, pageB]
theorem step_ok {x : S34} {r : List S34} {k : Nat} {pv q : Int} (h : (decide (x.f0.tmod 4096 = 0) && (decide (x.f2.length = 4096) && (decide (x.f1 < 8) && decide (Go.bits .and .u8 x.f1 3 ≠ 3)))) = true)
    (h1 : (k == 0 || decide (pv < x.f0)) = true) (hq : q = x.f0) : (true && rightFrom (k == 0) pv (x :: r)) = (true && rightFrom (k + 1 == 0) q r) := by
  subst hq
  have e : (k + 1 == 0) = false := by simp
  rw [e]
  simp only [rightFrom, pageB, h1, Bool.and_true, Bool.true_and]
  rw [show (decide (x.f0.tmod 4096 = 0) && (decide (x.f2.length = 4096) && (decide (x.f1 < 8) && decide (Go.bits .and .u8 x.f1 3 ≠ 3)))) = true from h, Bool.true_and]

set_option maxRecDepth 100000 in
theorem right_calls (A0 : Option Addr) (c0 : Nat) (l0 : List S34) (w : World) (hr0 : Kd.C k34 w A0 l0.length l0) :
    Calls Try.prog 20 #[.slice A0 l0.length c0] w fun e w' => e = .returned (.bool (rightP l0)) ∧ Below w.heap.size w w' := by
  have hu := hr0.2.1
  go_enter Try.func20, Try.ntmps20
  go_wp2_with fail
  go_step3
  go_wp2_with fail
  go_step3
  go_wp2_with fail
  go_loopw [2, 10] (fun t i wr => ∃ (k : Nat) (b : Bool), k ≤ l0.length ∧ i = .int .i64 k ∧ t = .bool b ∧ Below w.heap.size w wr ∧ rightP l0 = (b && rightFrom (k == 0) (rd_T34 l0 ((k : Int) - 1)).f0 (l0.drop k))) (fun _ i _ => l0.length - (intOf i).toNat)
  case atStart => exact ⟨0, _, Nat.zero_le _, rfl, rfl, Below.refl _ _, by unfold rightP; rw [rightFrom_true 0 (rd_T34 l0 ((0 : Nat) - 1 : Int)).f0]; rfl⟩
  case round =>
    obtain ⟨k, b, hk, rfl, rfl, hB, hf⟩ := hrel
    have HF := Aside0.mk hf
    have HBB := Aside0.mk hB
    clear hf
    by_cases hlt : k < l0.length
    · obtain ⟨ad, A2, c2, e, h1, h2, h3, hc2, hk2⟩ := at_T34 (Kd.C_below hr0 hB) (k : Int) (by omega) (by omega)
      simp only [Int.toNat_natCast] at h1 h2 h3
      have hu34 := Try.underlying34
      have D := drop_rd l0 k hlt
      cases b
      · clear hB hr0
        subst e
        clear hk2
        generalize rd_T34 l0 (k : Int) = x at *
        have HD := Aside0.mk D
        clear D
        go_wp2_with fail
        go_quiet (fail)
        go_wp2
        rw [Exit.noGoto_ret]
        go_ret
        exact ⟨ret_bool (by rw [HF.out]; rfl), by repeat (first | exact HBB.out | apply below_alloc | apply pw_below_drewN)⟩
      · have hprev : 0 < k → wr.cell? (ad.add ((k - 1) * 3)) = some (.int .u64 (rd_T34 l0 ((k : Int) - 1)).f0) := by
          intro hp
          obtain ⟨ad', B3, d3, e', g1, _⟩ := at_T34 (Kd.C_below hr0 hB) ((k : Int) - 1) (by omega) (by omega)
          rw [e] at e'
          injection e' with e'
          subst e'
          rw [show ((k : Int) - 1).toNat = k - 1 by omega] at g1
          exact g1
        clear hB hr0 hk2
        subst e
        generalize hx : rd_T34 l0 (k : Int) = x at *
        generalize (rd_T34 l0 ((k : Int) - 1)).f0 = pv at *
        have HD := Aside0.mk D
        have HX := Aside0.mk hx
        clear D hx
        have fin : ∀ W : World, Below wr.heap.size wr W → pageB (k == 0) pv x = false → (Ending.returned (Value.bool false) = .returned (.bool (rightP l0)) ∧ Below w.heap.size w W) := fun W hW hp => ⟨ret_bool (by rw [HF.out, HD.out]; simp [rightFrom, hp]), below_step HBB.out hW⟩
        have FIN := Aside0.mk fin
        clear fin
        by_cases d1 : x.f0.tmod 4096 = 0
        · by_cases d2 : x.f2.length = 4096
          · by_cases d3 : x.f1 < 8
            · have e3 : decide (x.f1 < 8) = true := decide_eq_true d3
              have e1 : (x.f0.tmod 4096 == 0) = true := by simpa using d1
              have e2 : ((x.f2.length : Int) == 4096) = true := by rw [beq_iff_eq]; omega
              by_cases d4 : Go.bits .and .u8 x.f1 3 = 3
              · have e4 : (Go.bits .and .u8 x.f1 3 != 3) = false := by simpa using d4
                clear d4 d1 d2 d3
                have D4 := Aside0.mk e4
                go_wp2_with fail
                go_quiet (fail)
                go_wp2
                rw [Exit.noGoto_ret]
                go_ret
                exact FIN.out _ (by repeat (first | exact Below.refl _ _ | apply below_alloc | apply pw_below_drewN)) (by have := D4.out; simp at this; simp [pageB, this])
              · have e4 : (Go.bits .and .u8 x.f1 3 != 3) = true := by simpa using d4
                have P0 := Aside0.mk (show (decide (x.f0.tmod 4096 = 0) && (decide (x.f2.length = 4096) && (decide (x.f1 < 8) && decide (Go.bits .and .u8 x.f1 3 ≠ 3)))) = true by simp [d1, d2, d3, d4])
                clear d4 d1 d2 d3
                by_cases d5 : k = 0
                · have h0 : ((k : Int) == 0) = true := by rw [beq_iff_eq]; omega
                  have D5 := Aside0.mk d5
                  clear d5 hprev
                  go_wp2_with fail
                  go_quiet (fail)
                  go_wp2
                  go_roundw
                  case rel => exact ⟨k + 1, true, by omega, by go_num, rfl, by repeat (first | exact HBB.out | apply below_alloc | apply pw_below_drewN), by rw [HF.out, HD.out]; exact step_ok P0.out (by simp [D5.out]) (by rw [show ((k + 1 : Nat) : Int) - 1 = (k : Int) by omega, HX.out])⟩
                  case measure => simp [intOf]; omega
                · have h0 : ((k : Int) == 0) = false := by rw [beq_eq_false_iff_ne]; omega
                  have D5 := Aside0.mk d5
                  have g1 := hprev (by omega)
                  have g1a := fun (o : Obj) => pw_cell_below (below_alloc (Below.refl _ wr) o) g1
                  have hk0 : (0 : Int) ≤ (k : Int) - 1 := by omega
                  clear hprev
                  by_cases d6 : pv < x.f0
                  · have D6 := Aside0.mk d6
                    have e6 : decide (pv < x.f0) = true := decide_eq_true d6
                    clear d6
                    go_wp2_with fail
                    go_quiet (fail)
                    go_wp2
                    go_roundw
                    case rel => exact ⟨k + 1, true, by omega, by go_num, rfl, by repeat (first | exact HBB.out | apply below_alloc | apply pw_below_drewN), by rw [HF.out, HD.out]; exact step_ok P0.out (by simp [D6.out]) (by rw [show ((k + 1 : Nat) : Int) - 1 = (k : Int) by omega, HX.out])⟩
                    case measure => simp [intOf]; omega
                  · have D6 := Aside0.mk d6
                    have e6 : decide (pv < x.f0) = false := decide_eq_false d6
                    clear d6
                    go_wp2_with fail
                    go_quiet (fail)
                    go_wp2
                    rw [Exit.noGoto_ret]
                    go_ret
                    exact FIN.out _ (by repeat (first | exact Below.refl _ _ | apply below_alloc | apply pw_below_drewN)) (by have h6 := D6.out; have h5 := D5.out; simp [pageB, h5]; intros; omega)
            · have e1 : (x.f0.tmod 4096 == 0) = true := by simpa using d1
              have e2 : ((x.f2.length : Int) == 4096) = true := by rw [beq_iff_eq]; omega
              have e3 : decide (x.f1 < 8) = false := decide_eq_false d3
              have D3 := Aside0.mk d3
              clear d1 d2 d3
              go_wp2_with fail
              go_quiet (fail)
              go_wp2
              rw [Exit.noGoto_ret]
              go_ret
              exact FIN.out _ (by repeat (first | exact Below.refl _ _ | apply below_alloc | apply pw_below_drewN)) (by have h3 := D3.out; simp [pageB, show decide (x.f1 < 8) = false from decide_eq_false (by omega)])
          · have e1 : (x.f0.tmod 4096 == 0) = true := by simpa using d1
            have e2 : ((x.f2.length : Int) == 4096) = false := by rw [beq_eq_false_iff_ne]; omega
            have D2 := Aside0.mk d2
            clear d1 d2
            go_wp2_with fail
            go_quiet (fail)
            go_wp2
            rw [Exit.noGoto_ret]
            go_ret
            exact FIN.out _ (by repeat (first | exact Below.refl _ _ | apply below_alloc | apply pw_below_drewN)) (by simp [pageB, D2.out])
        · have e1 : (x.f0.tmod 4096 == 0) = false := by simpa using d1
          go_wp2_with fail
          go_quiet (fail)
          go_wp2
          rw [Exit.noGoto_ret]
          go_ret
          exact FIN.out _ (by repeat (first | exact Below.refl _ _ | apply below_alloc | apply pw_below_drewN)) (by simp [pageB, d1])
    · go_wp2
      rw [Exit.noGoto_ret]
      go_ret
      exact ⟨ret_bool (by rw [HF.out, List.drop_of_length_le (by omega)]; simp [rightFrom]), HBB.out⟩
end Go.Proofs.Ytkpkgpopmodagaa.B
