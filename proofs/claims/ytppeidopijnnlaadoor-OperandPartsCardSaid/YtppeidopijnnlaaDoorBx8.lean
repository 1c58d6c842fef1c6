-- PRINTED by print.py (a twelfth state) out of the translation. Not trusted: Lean checks it.
import Derived.Test.YtppeidopijnnlaaDoorBx0
import Derived.Test.YtppeidopijnnlaaDoorBx1
import Derived.Test.YtppeidopijnnlaaDoorBx5
import Derived.Test.YtppeidopijnnlaaDoorBx6
import Derived.Test.YtppeidopijnnlaaDoorBx7
import Derived.Test.YtppeidopijnnlaaDoorGiven
namespace Go.Proofs.YtppeidopijnnlaaDoor.B
open Go.RowKit Go.Proofs.YtppeidopijnnlaaDoorW.PrintWords Go.Proofs.YtppeidopijnnlaaDoorW.PrintLast Go.Proofs.YtppeidopijnnlaaDoorW.PrintMore
attribute [local go_sem] max2_int min2_int max_two min_two max_three min_three max_four min_four   -- for this text's walks alone
set_option linter.unusedVariables false
set_option linter.unusedSimpArgs false

attribute [local go_sem high] eqA23
/-! ### sundiallaw08_OperandParts: function 7 -/
mutual
noncomputable def sundiallaw08_OperandParts.j0 : Nat → Int → Int → Int → Int → Bool → Int → Int → Int → Int → Int → Int → Bool → Int → Int → Int → Int → Int → Int → Int → Bool → Int → Option (Bool)
  | 0, _, _, _, _, _, _, _, _, _, _, _, _, _, _, _, _, _, _, _, _, _ => none
  | k + 1, x1, x5, x8, x13, x74, x200000, x200001, x200002, x200003, x200004, x200005, x200006, x200007, x224000, x224001, x224002, x224003, x224004, x224005, x224006, x224007 => if x74 = true then (some false) else (if x8 = 0 then (if x5 = (wrap64 (x13 + (wrap64 (8 * (wrap64 (Go.bits .and .u8 (x1 / 4) 1)))))) then (if x200005 = x224005 then (if x200000 = x224000 then (if (x200006 != x224006) = true then (sundiallaw08_OperandParts.j1 k true x200000 x200001 x200002 x200003 x200004 x200005 x200006 x200007 x224000 x224001 x224002 x224003 x224004 x224005 x224006 x224007) else (if x200001 = x224001 then (if x200002 = x224002 then (sundiallaw08_OperandParts.j1 k false x200000 x200001 x200002 x200003 x200004 x200005 x200006 x200007 x224000 x224001 x224002 x224003 x224004 x224005 x224006 x224007) else (sundiallaw08_OperandParts.j1 k (x200002 != (wrap64 (x224002 + 8))) x200000 x200001 x200002 x200003 x200004 x200005 x200006 x200007 x224000 x224001 x224002 x224003 x224004 x224005 x224006 x224007)) else (if x200001 = (wrap64 (x224001 + 8)) then (if x200002 = x224002 then (sundiallaw08_OperandParts.j1 k false x200000 x200001 x200002 x200003 x200004 x200005 x200006 x200007 x224000 x224001 x224002 x224003 x224004 x224005 x224006 x224007) else (sundiallaw08_OperandParts.j1 k (x200002 != (wrap64 (x224002 + 8))) x200000 x200001 x200002 x200003 x200004 x200005 x200006 x200007 x224000 x224001 x224002 x224003 x224004 x224005 x224006 x224007)) else (sundiallaw08_OperandParts.j1 k true x200000 x200001 x200002 x200003 x200004 x200005 x200006 x200007 x224000 x224001 x224002 x224003 x224004 x224005 x224006 x224007)))) else (sundiallaw08_OperandParts.j1 k true x200000 x200001 x200002 x200003 x200004 x200005 x200006 x200007 x224000 x224001 x224002 x224003 x224004 x224005 x224006 x224007)) else (sundiallaw08_OperandParts.j1 k true x200000 x200001 x200002 x200003 x200004 x200005 x200006 x200007 x224000 x224001 x224002 x224003 x224004 x224005 x224006 x224007)) else (sundiallaw08_OperandParts.j1 k true x200000 x200001 x200002 x200003 x200004 x200005 x200006 x200007 x224000 x224001 x224002 x224003 x224004 x224005 x224006 x224007)) else ((sundiallaw08_wakes.f).bind fun t224 => (some t224)))
noncomputable def sundiallaw08_OperandParts.j1 : Nat → Bool → Int → Int → Int → Int → Int → Int → Bool → Int → Int → Int → Int → Int → Int → Int → Bool → Int → Option (Bool)
  | 0, _, _, _, _, _, _, _, _, _, _, _, _, _, _, _, _, _ => none
  | k + 1, x137, x200000, x200001, x200002, x200003, x200004, x200005, x200006, x200007, x224000, x224001, x224002, x224003, x224004, x224005, x224006, x224007 => if x137 = true then (some false) else ((operand_Uses.f x200000 x200001 x200002 x200003 x200004 x200005 x200006 x200007).bind fun t225 => (sundiallaw08_OperandParts.l0 k t225 0 x200000 x200001 x200002 x200003 x200004 x200005 x200006 x200007 x224000 x224001 x224002 x224003 x224004 x224005 x224006 x224007))
noncomputable def sundiallaw08_OperandParts.l0 : Nat → List Int → Int → Int → Int → Int → Int → Int → Int → Bool → Int → Int → Int → Int → Int → Int → Int → Bool → Int → Option (Bool)
  | 0, _, _, _, _, _, _, _, _, _, _, _, _, _, _, _, _, _, _ => none
  | k + 1, x17, x18, x200000, x200001, x200002, x200003, x200004, x200005, x200006, x200007, x224000, x224001, x224002, x224003, x224004, x224005, x224006, x224007 => if x18 < (x17.length : Int) then (if 0 ≤ x18 then (if (rd x17 x18) < 0 then (some false) else (if (rd x17 x18) > 15 then (some false) else (sundiallaw08_OperandParts.l0 k x17 (wrap64 (x18 + 1)) x200000 x200001 x200002 x200003 x200004 x200005 x200006 x200007 x224000 x224001 x224002 x224003 x224004 x224005 x224006 x224007))) else (none)) else (if x200003 = x224003 then (if (x17.length : Int) ≤ 2 then ((sundiallaw08_wakes.f).bind fun t230 => (some t230)) else (some false)) else (if x200003 = (wrap64 (x224003 + 8)) then (if (x17.length : Int) ≤ 2 then ((sundiallaw08_wakes.f).bind fun t231 => (some t231)) else (some false)) else (if x224003 = (-1) then (if x200003 = 12 then (if (x17.length : Int) ≤ 2 then ((sundiallaw08_wakes.f).bind fun t232 => (some t232)) else (some false)) else (some false)) else (some false))))
end
noncomputable def sundiallaw08_OperandParts.f (k : Nat) (l0 : List Int) (a1 : Int) : Option (Bool) := if (l0.length : Int) > 20 then ((sundiallaw08_wakes.f).bind fun t187 => (some t187)) else ((operand_Take.f l0 a1).bind fun bt188 => ((operand_Take.f l0 (Go.bits .and .u8 a1 7)).bind fun bt200 => ((operand_Take.f l0 0).bind fun bt212 => (if bt188.1 = bt200.1 then (if (!(bt188.2.1 == bt200.2.1) || (!(bt188.2.2.1 == bt200.2.2.1) || (!(bt188.2.2.2.1 == bt200.2.2.2.1) || (!(bt188.2.2.2.2.1 == bt200.2.2.2.2.1) || (!(bt188.2.2.2.2.2.1 == bt200.2.2.2.2.2.1) || (!(bt188.2.2.2.2.2.2.1 == bt200.2.2.2.2.2.2.1) || (!(bt188.2.2.2.2.2.2.2.1 == bt200.2.2.2.2.2.2.2.1) || (!(bt188.2.2.2.2.2.2.2.2.1 == bt200.2.2.2.2.2.2.2.2.1))))))))) = true then (sundiallaw08_OperandParts.j0 k a1 bt188.1 bt188.2.2.2.2.2.2.2.2.2.2 bt212.1 true bt188.2.1 bt188.2.2.1 bt188.2.2.2.1 bt188.2.2.2.2.1 bt188.2.2.2.2.2.1 bt188.2.2.2.2.2.2.1 bt188.2.2.2.2.2.2.2.1 bt188.2.2.2.2.2.2.2.2.1 bt212.2.1 bt212.2.2.1 bt212.2.2.2.1 bt212.2.2.2.2.1 bt212.2.2.2.2.2.1 bt212.2.2.2.2.2.2.1 bt212.2.2.2.2.2.2.2.1 bt212.2.2.2.2.2.2.2.2.1) else (if bt188.2.2.2.2.2.2.2.2.2.1 = bt200.2.2.2.2.2.2.2.2.2.1 then (if bt188.2.2.2.2.2.2.2.2.2.2 = bt200.2.2.2.2.2.2.2.2.2.2 then (if bt212.2.2.2.2.2.2.2.2.2.1 = bt188.2.2.2.2.2.2.2.2.2.1 then (sundiallaw08_OperandParts.j0 k a1 bt188.1 bt188.2.2.2.2.2.2.2.2.2.2 bt212.1 (bt212.2.2.2.2.2.2.2.2.2.2 != bt188.2.2.2.2.2.2.2.2.2.2) bt188.2.1 bt188.2.2.1 bt188.2.2.2.1 bt188.2.2.2.2.1 bt188.2.2.2.2.2.1 bt188.2.2.2.2.2.2.1 bt188.2.2.2.2.2.2.2.1 bt188.2.2.2.2.2.2.2.2.1 bt212.2.1 bt212.2.2.1 bt212.2.2.2.1 bt212.2.2.2.2.1 bt212.2.2.2.2.2.1 bt212.2.2.2.2.2.2.1 bt212.2.2.2.2.2.2.2.1 bt212.2.2.2.2.2.2.2.2.1) else (sundiallaw08_OperandParts.j0 k a1 bt188.1 bt188.2.2.2.2.2.2.2.2.2.2 bt212.1 true bt188.2.1 bt188.2.2.1 bt188.2.2.2.1 bt188.2.2.2.2.1 bt188.2.2.2.2.2.1 bt188.2.2.2.2.2.2.1 bt188.2.2.2.2.2.2.2.1 bt188.2.2.2.2.2.2.2.2.1 bt212.2.1 bt212.2.2.1 bt212.2.2.2.1 bt212.2.2.2.2.1 bt212.2.2.2.2.2.1 bt212.2.2.2.2.2.2.1 bt212.2.2.2.2.2.2.2.1 bt212.2.2.2.2.2.2.2.2.1)) else (sundiallaw08_OperandParts.j0 k a1 bt188.1 bt188.2.2.2.2.2.2.2.2.2.2 bt212.1 true bt188.2.1 bt188.2.2.1 bt188.2.2.2.1 bt188.2.2.2.2.1 bt188.2.2.2.2.2.1 bt188.2.2.2.2.2.2.1 bt188.2.2.2.2.2.2.2.1 bt188.2.2.2.2.2.2.2.2.1 bt212.2.1 bt212.2.2.1 bt212.2.2.2.1 bt212.2.2.2.2.1 bt212.2.2.2.2.2.1 bt212.2.2.2.2.2.2.1 bt212.2.2.2.2.2.2.2.1 bt212.2.2.2.2.2.2.2.2.1)) else (sundiallaw08_OperandParts.j0 k a1 bt188.1 bt188.2.2.2.2.2.2.2.2.2.2 bt212.1 true bt188.2.1 bt188.2.2.1 bt188.2.2.2.1 bt188.2.2.2.2.1 bt188.2.2.2.2.2.1 bt188.2.2.2.2.2.2.1 bt188.2.2.2.2.2.2.2.1 bt188.2.2.2.2.2.2.2.2.1 bt212.2.1 bt212.2.2.1 bt212.2.2.2.1 bt212.2.2.2.2.1 bt212.2.2.2.2.2.1 bt212.2.2.2.2.2.2.1 bt212.2.2.2.2.2.2.2.1 bt212.2.2.2.2.2.2.2.2.1))) else (sundiallaw08_OperandParts.j0 k a1 bt188.1 bt188.2.2.2.2.2.2.2.2.2.2 bt212.1 true bt188.2.1 bt188.2.2.1 bt188.2.2.2.1 bt188.2.2.2.2.1 bt188.2.2.2.2.2.1 bt188.2.2.2.2.2.2.1 bt188.2.2.2.2.2.2.2.1 bt188.2.2.2.2.2.2.2.2.1 bt212.2.1 bt212.2.2.1 bt212.2.2.2.1 bt212.2.2.2.2.1 bt212.2.2.2.2.2.1 bt212.2.2.2.2.2.2.1 bt212.2.2.2.2.2.2.2.1 bt212.2.2.2.2.2.2.2.2.1)))))
theorem sundiallaw08_OperandParts.mono_l : ∀ k, (∀ y0 y1 y2 y3 y4 y5 y6 y7 y8 y9 y10 y11 y12 y13 y14 y15 y16 y17 y18 y19 y20, LeO (sundiallaw08_OperandParts.j0 k y0 y1 y2 y3 y4 y5 y6 y7 y8 y9 y10 y11 y12 y13 y14 y15 y16 y17 y18 y19 y20) (sundiallaw08_OperandParts.j0 (k + 1) y0 y1 y2 y3 y4 y5 y6 y7 y8 y9 y10 y11 y12 y13 y14 y15 y16 y17 y18 y19 y20)) ∧ (∀ y0 y1 y2 y3 y4 y5 y6 y7 y8 y9 y10 y11 y12 y13 y14 y15 y16, LeO (sundiallaw08_OperandParts.j1 k y0 y1 y2 y3 y4 y5 y6 y7 y8 y9 y10 y11 y12 y13 y14 y15 y16) (sundiallaw08_OperandParts.j1 (k + 1) y0 y1 y2 y3 y4 y5 y6 y7 y8 y9 y10 y11 y12 y13 y14 y15 y16)) ∧ (∀ y0 y1 y2 y3 y4 y5 y6 y7 y8 y9 y10 y11 y12 y13 y14 y15 y16 y17, LeO (sundiallaw08_OperandParts.l0 k y0 y1 y2 y3 y4 y5 y6 y7 y8 y9 y10 y11 y12 y13 y14 y15 y16 y17) (sundiallaw08_OperandParts.l0 (k + 1) y0 y1 y2 y3 y4 y5 y6 y7 y8 y9 y10 y11 y12 y13 y14 y15 y16 y17))
  | 0 => ⟨fun _ _ _ _ _ _ _ _ _ _ _ _ _ _ _ _ _ _ _ _ _ r h => by simp [sundiallaw08_OperandParts.j0] at h, fun _ _ _ _ _ _ _ _ _ _ _ _ _ _ _ _ _ r h => by simp [sundiallaw08_OperandParts.j1] at h, fun _ _ _ _ _ _ _ _ _ _ _ _ _ _ _ _ _ _ r h => by simp [sundiallaw08_OperandParts.l0] at h⟩
  | k + 1 => by
    obtain ⟨ih0, ih1, ih2⟩ := sundiallaw08_OperandParts.mono_l k
    refine ⟨?_, ?_, ?_⟩
    · intro y0 y1 y2 y3 y4 y5 y6 y7 y8 y9 y10 y11 y12 y13 y14 y15 y16 y17 y18 y19 y20
      unfold sundiallaw08_OperandParts.j0
      repeat' first
      | (with_reducible exact ih0 _ _ _ _ _ _ _ _ _ _ _ _ _ _ _ _ _ _ _ _ _)
      | (with_reducible exact ih1 _ _ _ _ _ _ _ _ _ _ _ _ _ _ _ _ _)
      | (with_reducible exact ih2 _ _ _ _ _ _ _ _ _ _ _ _ _ _ _ _ _ _)
      | (with_reducible exact LeO.refl _)
      | (with_reducible exact LeO.none _)
      | (with_reducible refine LeO.ite ?_ ?_)
      | (with_reducible refine LeO.bind ?_ (fun _ => ?_))
      | exact ih0 _ _ _ _ _ _ _ _ _ _ _ _ _ _ _ _ _ _ _ _ _
      | exact ih1 _ _ _ _ _ _ _ _ _ _ _ _ _ _ _ _ _
      | exact ih2 _ _ _ _ _ _ _ _ _ _ _ _ _ _ _ _ _ _
      | exact LeO.none _
      | refine LeO.ite ?_ ?_
      | refine LeO.bind ?_ (fun _ => ?_)
    · intro y0 y1 y2 y3 y4 y5 y6 y7 y8 y9 y10 y11 y12 y13 y14 y15 y16
      unfold sundiallaw08_OperandParts.j1
      repeat' first
      | (with_reducible exact ih0 _ _ _ _ _ _ _ _ _ _ _ _ _ _ _ _ _ _ _ _ _)
      | (with_reducible exact ih1 _ _ _ _ _ _ _ _ _ _ _ _ _ _ _ _ _)
      | (with_reducible exact ih2 _ _ _ _ _ _ _ _ _ _ _ _ _ _ _ _ _ _)
      | (with_reducible exact LeO.refl _)
      | (with_reducible exact LeO.none _)
      | (with_reducible refine LeO.ite ?_ ?_)
      | (with_reducible refine LeO.bind ?_ (fun _ => ?_))
      | exact ih0 _ _ _ _ _ _ _ _ _ _ _ _ _ _ _ _ _ _ _ _ _
      | exact ih1 _ _ _ _ _ _ _ _ _ _ _ _ _ _ _ _ _
      | exact ih2 _ _ _ _ _ _ _ _ _ _ _ _ _ _ _ _ _ _
      | exact LeO.none _
      | refine LeO.ite ?_ ?_
      | refine LeO.bind ?_ (fun _ => ?_)
    · intro y0 y1 y2 y3 y4 y5 y6 y7 y8 y9 y10 y11 y12 y13 y14 y15 y16 y17
      unfold sundiallaw08_OperandParts.l0
      repeat' first
      | (with_reducible exact ih0 _ _ _ _ _ _ _ _ _ _ _ _ _ _ _ _ _ _ _ _ _)
      | (with_reducible exact ih1 _ _ _ _ _ _ _ _ _ _ _ _ _ _ _ _ _)
      | (with_reducible exact ih2 _ _ _ _ _ _ _ _ _ _ _ _ _ _ _ _ _ _)
      | (with_reducible exact LeO.refl _)
      | (with_reducible exact LeO.none _)
      | (with_reducible refine LeO.ite ?_ ?_)
      | (with_reducible refine LeO.bind ?_ (fun _ => ?_))
      | exact ih0 _ _ _ _ _ _ _ _ _ _ _ _ _ _ _ _ _ _ _ _ _
      | exact ih1 _ _ _ _ _ _ _ _ _ _ _ _ _ _ _ _ _
      | exact ih2 _ _ _ _ _ _ _ _ _ _ _ _ _ _ _ _ _ _
      | exact LeO.none _
      | refine LeO.ite ?_ ?_
      | refine LeO.bind ?_ (fun _ => ?_)
theorem sundiallaw08_OperandParts.mono : ∀ a0 a1 k, LeO (sundiallaw08_OperandParts.f k a0 a1) (sundiallaw08_OperandParts.f (k + 1) a0 a1) := by
  intro a0 a1 k
  obtain ⟨ih0, ih1, ih2⟩ := sundiallaw08_OperandParts.mono_l k
  unfold sundiallaw08_OperandParts.f
  repeat' first
      | (with_reducible exact ih0 _ _ _ _ _ _ _ _ _ _ _ _ _ _ _ _ _ _ _ _ _)
      | (with_reducible exact ih1 _ _ _ _ _ _ _ _ _ _ _ _ _ _ _ _ _)
      | (with_reducible exact ih2 _ _ _ _ _ _ _ _ _ _ _ _ _ _ _ _ _ _)
      | (with_reducible exact LeO.refl _)
      | (with_reducible exact LeO.none _)
      | (with_reducible refine LeO.ite ?_ ?_)
      | (with_reducible refine LeO.bind ?_ (fun _ => ?_))
      | exact ih0 _ _ _ _ _ _ _ _ _ _ _ _ _ _ _ _ _ _ _ _ _
      | exact ih1 _ _ _ _ _ _ _ _ _ _ _ _ _ _ _ _ _
      | exact ih2 _ _ _ _ _ _ _ _ _ _ _ _ _ _ _ _ _ _
      | exact LeO.none _
      | refine LeO.ite ?_ ?_
      | refine LeO.bind ?_ (fun _ => ?_)
theorem sundiallaw08_OperandParts.j0_no : ∀ k, ∀ y0 y1 y2 y3 y5 y6 y7 y8 y9 y10 y11 y12 y13 y14 y15 y16 y17 y18 y19 y20, ¬ sundiallaw08_OperandParts.j0 k y0 y1 y2 y3 true y5 y6 y7 y8 y9 y10 y11 y12 y13 y14 y15 y16 y17 y18 y19 y20 = some true
  | 0 => by intros; simp [sundiallaw08_OperandParts.j0]
  | k + 1 => by intros; rw [sundiallaw08_OperandParts.j0, if_pos rfl]; simp
theorem sundiallaw08_OperandParts.j1_no : ∀ k, ∀ y1 y2 y3 y4 y5 y6 y7 y8 y9 y10 y11 y12 y13 y14 y15 y16, ¬ sundiallaw08_OperandParts.j1 k true y1 y2 y3 y4 y5 y6 y7 y8 y9 y10 y11 y12 y13 y14 y15 y16 = some true
  | 0 => by intros; simp [sundiallaw08_OperandParts.j1]
  | k + 1 => by intros; rw [sundiallaw08_OperandParts.j1, if_pos rfl]; simp
theorem sundiallaw08_OperandParts.some_no : ¬ (some false = some true) := by decide
set_option maxHeartbeats 8000000 in
set_option maxRecDepth 100000 in
theorem sundiallaw08_OperandParts.calls (k : Nat) (A0 : Option Addr) (c0 : Nat) (l0 : List Int) (a1 : Int) (w : World) (hr0 : Kd.C (Kd.int .u8) w A0 l0.length l0) (hc0 : l0.length ≤ c0) (h : sundiallaw08_OperandParts.f k l0 a1 = some true) :
    Calls Tryd.prog 7 #[.slice A0 l0.length c0, .int .u8 a1] w fun e w' => e = .returned (.bool true) ∧ Below w.heap.size w w' := by
  have hu23 := Tryd.underlying23
  have HR0 := Aside0.mk hr0
  have HC0 := Aside0.mk hc0
  clear hr0 hc0
  have HB := Aside0.mk (Below.refl w.heap.size w)
  have H : (if (l0.length : Int) > 20 then ((sundiallaw08_wakes.f).bind fun t187 => (some t187)) else ((operand_Take.f l0 a1).bind fun bt188 => ((operand_Take.f l0 (Go.bits .and .u8 a1 7)).bind fun bt200 => ((operand_Take.f l0 0).bind fun bt212 => (if bt188.1 = bt200.1 then (if (!(bt188.2.1 == bt200.2.1) || (!(bt188.2.2.1 == bt200.2.2.1) || (!(bt188.2.2.2.1 == bt200.2.2.2.1) || (!(bt188.2.2.2.2.1 == bt200.2.2.2.2.1) || (!(bt188.2.2.2.2.2.1 == bt200.2.2.2.2.2.1) || (!(bt188.2.2.2.2.2.2.1 == bt200.2.2.2.2.2.2.1) || (!(bt188.2.2.2.2.2.2.2.1 == bt200.2.2.2.2.2.2.2.1) || (!(bt188.2.2.2.2.2.2.2.2.1 == bt200.2.2.2.2.2.2.2.2.1))))))))) = true then (sundiallaw08_OperandParts.j0 k a1 bt188.1 bt188.2.2.2.2.2.2.2.2.2.2 bt212.1 true bt188.2.1 bt188.2.2.1 bt188.2.2.2.1 bt188.2.2.2.2.1 bt188.2.2.2.2.2.1 bt188.2.2.2.2.2.2.1 bt188.2.2.2.2.2.2.2.1 bt188.2.2.2.2.2.2.2.2.1 bt212.2.1 bt212.2.2.1 bt212.2.2.2.1 bt212.2.2.2.2.1 bt212.2.2.2.2.2.1 bt212.2.2.2.2.2.2.1 bt212.2.2.2.2.2.2.2.1 bt212.2.2.2.2.2.2.2.2.1) else (if bt188.2.2.2.2.2.2.2.2.2.1 = bt200.2.2.2.2.2.2.2.2.2.1 then (if bt188.2.2.2.2.2.2.2.2.2.2 = bt200.2.2.2.2.2.2.2.2.2.2 then (if bt212.2.2.2.2.2.2.2.2.2.1 = bt188.2.2.2.2.2.2.2.2.2.1 then (sundiallaw08_OperandParts.j0 k a1 bt188.1 bt188.2.2.2.2.2.2.2.2.2.2 bt212.1 (bt212.2.2.2.2.2.2.2.2.2.2 != bt188.2.2.2.2.2.2.2.2.2.2) bt188.2.1 bt188.2.2.1 bt188.2.2.2.1 bt188.2.2.2.2.1 bt188.2.2.2.2.2.1 bt188.2.2.2.2.2.2.1 bt188.2.2.2.2.2.2.2.1 bt188.2.2.2.2.2.2.2.2.1 bt212.2.1 bt212.2.2.1 bt212.2.2.2.1 bt212.2.2.2.2.1 bt212.2.2.2.2.2.1 bt212.2.2.2.2.2.2.1 bt212.2.2.2.2.2.2.2.1 bt212.2.2.2.2.2.2.2.2.1) else (sundiallaw08_OperandParts.j0 k a1 bt188.1 bt188.2.2.2.2.2.2.2.2.2.2 bt212.1 true bt188.2.1 bt188.2.2.1 bt188.2.2.2.1 bt188.2.2.2.2.1 bt188.2.2.2.2.2.1 bt188.2.2.2.2.2.2.1 bt188.2.2.2.2.2.2.2.1 bt188.2.2.2.2.2.2.2.2.1 bt212.2.1 bt212.2.2.1 bt212.2.2.2.1 bt212.2.2.2.2.1 bt212.2.2.2.2.2.1 bt212.2.2.2.2.2.2.1 bt212.2.2.2.2.2.2.2.1 bt212.2.2.2.2.2.2.2.2.1)) else (sundiallaw08_OperandParts.j0 k a1 bt188.1 bt188.2.2.2.2.2.2.2.2.2.2 bt212.1 true bt188.2.1 bt188.2.2.1 bt188.2.2.2.1 bt188.2.2.2.2.1 bt188.2.2.2.2.2.1 bt188.2.2.2.2.2.2.1 bt188.2.2.2.2.2.2.2.1 bt188.2.2.2.2.2.2.2.2.1 bt212.2.1 bt212.2.2.1 bt212.2.2.2.1 bt212.2.2.2.2.1 bt212.2.2.2.2.2.1 bt212.2.2.2.2.2.2.1 bt212.2.2.2.2.2.2.2.1 bt212.2.2.2.2.2.2.2.2.1)) else (sundiallaw08_OperandParts.j0 k a1 bt188.1 bt188.2.2.2.2.2.2.2.2.2.2 bt212.1 true bt188.2.1 bt188.2.2.1 bt188.2.2.2.1 bt188.2.2.2.2.1 bt188.2.2.2.2.2.1 bt188.2.2.2.2.2.2.1 bt188.2.2.2.2.2.2.2.1 bt188.2.2.2.2.2.2.2.2.1 bt212.2.1 bt212.2.2.1 bt212.2.2.2.1 bt212.2.2.2.2.1 bt212.2.2.2.2.2.1 bt212.2.2.2.2.2.2.1 bt212.2.2.2.2.2.2.2.1 bt212.2.2.2.2.2.2.2.2.1))) else (sundiallaw08_OperandParts.j0 k a1 bt188.1 bt188.2.2.2.2.2.2.2.2.2.2 bt212.1 true bt188.2.1 bt188.2.2.1 bt188.2.2.2.1 bt188.2.2.2.2.1 bt188.2.2.2.2.2.1 bt188.2.2.2.2.2.2.1 bt188.2.2.2.2.2.2.2.1 bt188.2.2.2.2.2.2.2.2.1 bt212.2.1 bt212.2.2.1 bt212.2.2.2.1 bt212.2.2.2.2.1 bt212.2.2.2.2.2.1 bt212.2.2.2.2.2.2.1 bt212.2.2.2.2.2.2.2.1 bt212.2.2.2.2.2.2.2.2.1)))))) = some true := h
  clear h
  by_cases c3 : (l0.length : Int) > 20
  · rw [if_pos c3] at H
    try first | (with_reducible exact absurd H (sundiallaw08_OperandParts.j0_no ..)) | (with_reducible exact absurd H (sundiallaw08_OperandParts.j1_no ..)) | (with_reducible exact absurd H (sundiallaw08_OperandParts.some_no))
    all_goals
      have c3b0 : decide (20 < (l0.length : Int)) = true := decide_eq_true c3
      have c3b1 : decide (20 < l0.length) = true := decide_eq_true (by omega)
      clear c3
      replace H := Option.bind_eq_some_iff.mp H
      obtain ⟨t187, A40, H⟩ := H
      replace H : (some t187) = some true := H
      have A4 := Aside0.mk A40
      clear A40
      try (exact absurd H sundiallaw08_OperandParts.some_no)
      all_goals
        obtain rfl := Option.some.inj H
        go_enter Tryd.func7, Tryd.ntmps7
        go_wp2_with (first | ((with_reducible refine gate_callee (f := 8) rfl ?_); refine goesL_ (some 22) rfl rfl Tryd.func8 (by kernel_rfl) rfl #[] rfl (by (try simp only [List.map_toArray, List.map_cons, List.map_nil]); first | done | rfl | (simp only [List.length_drop, List.length_take]; rfl)) ?_; (with_reducible refine (sundiallaw08_wakes.calls true _ A4.out).mono ?_); rintro e w5 ⟨rfl, hb⟩; refine ⟨_, rfl, ?_⟩; have n0_ := Aside0.mk (below_step (by repeat (first | (with_reducible first | exact HB.out | apply below_alloc | apply pw_below_drewN | apply below_drew1) | exact HB.out)) hb); clear HB; have HB := n0_; clear n0_; (try clear hb); (try clear hb2); (try clear hk); (try clear hi)))
        go_ret
        exact ⟨by first | rfl | (simp [errW_none, errW_some] <;> rfl) | (simp [*, errW_none, errW_some] <;> rfl), by repeat (first | (with_reducible first | exact HB.out | apply below_alloc | apply pw_below_drewN | apply below_drew1) | exact HB.out)⟩
  · rw [if_neg c3] at H
    try first | (with_reducible exact absurd H (sundiallaw08_OperandParts.j0_no ..)) | (with_reducible exact absurd H (sundiallaw08_OperandParts.j1_no ..)) | (with_reducible exact absurd H (sundiallaw08_OperandParts.some_no))
    all_goals
      have c3b0 : decide (20 < (l0.length : Int)) = false := decide_eq_false c3
      have c3b1 : decide (20 < l0.length) = false := decide_eq_false (by omega)
      clear c3
      replace H := Option.bind_eq_some_iff.mp H
      obtain ⟨⟨t188, t189, t190, t191, t192, t193, t194, t195, t196, t197, t198⟩, A60, H⟩ := H
      replace H : ((operand_Take.f l0 (Go.bits .and .u8 a1 7)).bind fun bt200 => ((operand_Take.f l0 0).bind fun bt212 => (if t188 = bt200.1 then (if (!(t189 == bt200.2.1) || (!(t190 == bt200.2.2.1) || (!(t191 == bt200.2.2.2.1) || (!(t192 == bt200.2.2.2.2.1) || (!(t193 == bt200.2.2.2.2.2.1) || (!(t194 == bt200.2.2.2.2.2.2.1) || (!(t195 == bt200.2.2.2.2.2.2.2.1) || (!(t196 == bt200.2.2.2.2.2.2.2.2.1))))))))) = true then (sundiallaw08_OperandParts.j0 k a1 t188 t198 bt212.1 true t189 t190 t191 t192 t193 t194 t195 t196 bt212.2.1 bt212.2.2.1 bt212.2.2.2.1 bt212.2.2.2.2.1 bt212.2.2.2.2.2.1 bt212.2.2.2.2.2.2.1 bt212.2.2.2.2.2.2.2.1 bt212.2.2.2.2.2.2.2.2.1) else (if t197 = bt200.2.2.2.2.2.2.2.2.2.1 then (if t198 = bt200.2.2.2.2.2.2.2.2.2.2 then (if bt212.2.2.2.2.2.2.2.2.2.1 = t197 then (sundiallaw08_OperandParts.j0 k a1 t188 t198 bt212.1 (bt212.2.2.2.2.2.2.2.2.2.2 != t198) t189 t190 t191 t192 t193 t194 t195 t196 bt212.2.1 bt212.2.2.1 bt212.2.2.2.1 bt212.2.2.2.2.1 bt212.2.2.2.2.2.1 bt212.2.2.2.2.2.2.1 bt212.2.2.2.2.2.2.2.1 bt212.2.2.2.2.2.2.2.2.1) else (sundiallaw08_OperandParts.j0 k a1 t188 t198 bt212.1 true t189 t190 t191 t192 t193 t194 t195 t196 bt212.2.1 bt212.2.2.1 bt212.2.2.2.1 bt212.2.2.2.2.1 bt212.2.2.2.2.2.1 bt212.2.2.2.2.2.2.1 bt212.2.2.2.2.2.2.2.1 bt212.2.2.2.2.2.2.2.2.1)) else (sundiallaw08_OperandParts.j0 k a1 t188 t198 bt212.1 true t189 t190 t191 t192 t193 t194 t195 t196 bt212.2.1 bt212.2.2.1 bt212.2.2.2.1 bt212.2.2.2.2.1 bt212.2.2.2.2.2.1 bt212.2.2.2.2.2.2.1 bt212.2.2.2.2.2.2.2.1 bt212.2.2.2.2.2.2.2.2.1)) else (sundiallaw08_OperandParts.j0 k a1 t188 t198 bt212.1 true t189 t190 t191 t192 t193 t194 t195 t196 bt212.2.1 bt212.2.2.1 bt212.2.2.2.1 bt212.2.2.2.2.1 bt212.2.2.2.2.2.1 bt212.2.2.2.2.2.2.1 bt212.2.2.2.2.2.2.2.1 bt212.2.2.2.2.2.2.2.2.1))) else (sundiallaw08_OperandParts.j0 k a1 t188 t198 bt212.1 true t189 t190 t191 t192 t193 t194 t195 t196 bt212.2.1 bt212.2.2.1 bt212.2.2.2.1 bt212.2.2.2.2.1 bt212.2.2.2.2.2.1 bt212.2.2.2.2.2.2.1 bt212.2.2.2.2.2.2.2.1 bt212.2.2.2.2.2.2.2.2.1)))) = some true := H
      have A6 := Aside0.mk A60
      clear A60
      replace H := Option.bind_eq_some_iff.mp H
      obtain ⟨⟨t200, t201, t202, t203, t204, t205, t206, t207, t208, t209, t210⟩, A70, H⟩ := H
      replace H : ((operand_Take.f l0 0).bind fun bt212 => (if t188 = t200 then (if (!(t189 == t201) || (!(t190 == t202) || (!(t191 == t203) || (!(t192 == t204) || (!(t193 == t205) || (!(t194 == t206) || (!(t195 == t207) || (!(t196 == t208))))))))) = true then (sundiallaw08_OperandParts.j0 k a1 t188 t198 bt212.1 true t189 t190 t191 t192 t193 t194 t195 t196 bt212.2.1 bt212.2.2.1 bt212.2.2.2.1 bt212.2.2.2.2.1 bt212.2.2.2.2.2.1 bt212.2.2.2.2.2.2.1 bt212.2.2.2.2.2.2.2.1 bt212.2.2.2.2.2.2.2.2.1) else (if t197 = t209 then (if t198 = t210 then (if bt212.2.2.2.2.2.2.2.2.2.1 = t197 then (sundiallaw08_OperandParts.j0 k a1 t188 t198 bt212.1 (bt212.2.2.2.2.2.2.2.2.2.2 != t198) t189 t190 t191 t192 t193 t194 t195 t196 bt212.2.1 bt212.2.2.1 bt212.2.2.2.1 bt212.2.2.2.2.1 bt212.2.2.2.2.2.1 bt212.2.2.2.2.2.2.1 bt212.2.2.2.2.2.2.2.1 bt212.2.2.2.2.2.2.2.2.1) else (sundiallaw08_OperandParts.j0 k a1 t188 t198 bt212.1 true t189 t190 t191 t192 t193 t194 t195 t196 bt212.2.1 bt212.2.2.1 bt212.2.2.2.1 bt212.2.2.2.2.1 bt212.2.2.2.2.2.1 bt212.2.2.2.2.2.2.1 bt212.2.2.2.2.2.2.2.1 bt212.2.2.2.2.2.2.2.2.1)) else (sundiallaw08_OperandParts.j0 k a1 t188 t198 bt212.1 true t189 t190 t191 t192 t193 t194 t195 t196 bt212.2.1 bt212.2.2.1 bt212.2.2.2.1 bt212.2.2.2.2.1 bt212.2.2.2.2.2.1 bt212.2.2.2.2.2.2.1 bt212.2.2.2.2.2.2.2.1 bt212.2.2.2.2.2.2.2.2.1)) else (sundiallaw08_OperandParts.j0 k a1 t188 t198 bt212.1 true t189 t190 t191 t192 t193 t194 t195 t196 bt212.2.1 bt212.2.2.1 bt212.2.2.2.1 bt212.2.2.2.2.1 bt212.2.2.2.2.2.1 bt212.2.2.2.2.2.2.1 bt212.2.2.2.2.2.2.2.1 bt212.2.2.2.2.2.2.2.2.1))) else (sundiallaw08_OperandParts.j0 k a1 t188 t198 bt212.1 true t189 t190 t191 t192 t193 t194 t195 t196 bt212.2.1 bt212.2.2.1 bt212.2.2.2.1 bt212.2.2.2.2.1 bt212.2.2.2.2.2.1 bt212.2.2.2.2.2.2.1 bt212.2.2.2.2.2.2.2.1 bt212.2.2.2.2.2.2.2.2.1))) = some true := H
      have A7 := Aside0.mk A70
      clear A70
      replace H := Option.bind_eq_some_iff.mp H
      obtain ⟨⟨t212, t213, t214, t215, t216, t217, t218, t219, t220, t221, t222⟩, A80, H⟩ := H
      replace H : (if t188 = t200 then (if (!(t189 == t201) || (!(t190 == t202) || (!(t191 == t203) || (!(t192 == t204) || (!(t193 == t205) || (!(t194 == t206) || (!(t195 == t207) || (!(t196 == t208))))))))) = true then (sundiallaw08_OperandParts.j0 k a1 t188 t198 t212 true t189 t190 t191 t192 t193 t194 t195 t196 t213 t214 t215 t216 t217 t218 t219 t220) else (if t197 = t209 then (if t198 = t210 then (if t221 = t197 then (sundiallaw08_OperandParts.j0 k a1 t188 t198 t212 (t222 != t198) t189 t190 t191 t192 t193 t194 t195 t196 t213 t214 t215 t216 t217 t218 t219 t220) else (sundiallaw08_OperandParts.j0 k a1 t188 t198 t212 true t189 t190 t191 t192 t193 t194 t195 t196 t213 t214 t215 t216 t217 t218 t219 t220)) else (sundiallaw08_OperandParts.j0 k a1 t188 t198 t212 true t189 t190 t191 t192 t193 t194 t195 t196 t213 t214 t215 t216 t217 t218 t219 t220)) else (sundiallaw08_OperandParts.j0 k a1 t188 t198 t212 true t189 t190 t191 t192 t193 t194 t195 t196 t213 t214 t215 t216 t217 t218 t219 t220))) else (sundiallaw08_OperandParts.j0 k a1 t188 t198 t212 true t189 t190 t191 t192 t193 t194 t195 t196 t213 t214 t215 t216 t217 t218 t219 t220)) = some true := H
      have A8 := Aside0.mk A80
      clear A80
      have HC9 := Aside0.mk H
      clear H
      go_enter Tryd.func7, Tryd.ntmps7
      go_upto_region 6 with (first | ((with_reducible refine gate_callee (f := 11) rfl ?_); refine goesL_ (some 26) rfl rfl Tryd.func11 (by kernel_rfl) rfl #[.slice A0 l0.length c0, .int .u8 a1] rfl (by (try simp only [List.map_toArray, List.map_cons, List.map_nil]); first | done | rfl | (simp only [List.length_drop, List.length_take]; rfl)) ?_; (with_reducible refine (operand_Take.calls _ _ l0 a1 t188 t189 t190 t191 t192 t193 t194 t195 t196 t197 t198 _ ?side1 ?side2 A6.out).mono ?_); (case side1 => repeat (first | exact HR0.out | (with_reducible refine Kd.C_alloc ?_ _) | (with_reducible refine Kd.C_drewN ?_ _) | (with_reducible refine Kd.C_drew ?_))); (case side2 => exact HC0.out); rintro e w10 ⟨rfl, hb⟩; refine ⟨_, rfl, ?_⟩; have n0_ := Aside0.mk (below_step (by repeat (first | (with_reducible first | exact HB.out | apply below_alloc | apply pw_below_drewN | apply below_drew1) | exact HB.out)) hb); clear HB; have HB := n0_; clear n0_; (try clear hb); (try clear hb2); (try clear hk); (try clear hi)) | ((with_reducible refine gate_dst (N := 6) rfl ?_); (try (refine gate_guard (by rfl) ?_; dsimp only)); refine box_event ?hg (N := 6) ?hd (cs := #[.int .u8 0, .int .i64 0, .int .i64 0, .int .i64 0, .int .i64 0, .int .i64 0, .bool false, .int .i64 0]) (t := 23) ?hr ?_; (case hd => rfl); (case hg => rfl); (case hr => first | (go_simp; done) | (go_simp; rfl)); intro gb199 hg w11 hbox hb; have n0_ := Aside0.mk (below_step (by repeat (first | (with_reducible first | exact HB.out | apply below_alloc | apply pw_below_drewN | apply below_drew1) | exact HB.out)) hb); have n1_ := Aside0.mk (hbox); have n2_ := Aside0.mk ((by rw [hg]; exact (below_size (by repeat (first | (with_reducible first | exact HB.out | apply below_alloc | apply pw_below_drewN | apply below_drew1) | exact HB.out))) : w.heap.size ≤ gb199)); have n3_ := Aside0.mk ((by rw [hg]; exact (below_size (by repeat (first | (with_reducible first | exact HB.out | apply below_alloc | apply pw_below_drewN | apply below_drew1) | exact HB.out))) : w.heap.size ≤ gb199)); clear HB; have HB := n0_; have BK199 := n1_; have GW199 := n2_; have GE199 := n3_; clear n0_ n1_ n2_ n3_; clear hb hbox hg; have hcz12_0 : w11.cell? ⟨gb199, 0, none⟩ = some (.int .u8 0) := (blk_cell BK199.out 0).trans rfl; have hcz12_1 : w11.cell? ⟨gb199, 1, none⟩ = some (.int .i64 0) := (blk_cell BK199.out 1).trans rfl; have hcz12_2 : w11.cell? ⟨gb199, 2, none⟩ = some (.int .i64 0) := (blk_cell BK199.out 2).trans rfl; have hcz12_3 : w11.cell? ⟨gb199, 3, none⟩ = some (.int .i64 0) := (blk_cell BK199.out 3).trans rfl; have hcz12_4 : w11.cell? ⟨gb199, 4, none⟩ = some (.int .i64 0) := (blk_cell BK199.out 4).trans rfl; have hcz12_5 : w11.cell? ⟨gb199, 5, none⟩ = some (.int .i64 0) := (blk_cell BK199.out 5).trans rfl; have hcz12_6 : w11.cell? ⟨gb199, 6, none⟩ = some (.bool false) := (blk_cell BK199.out 6).trans rfl; have hcz12_7 : w11.cell? ⟨gb199, 7, none⟩ = some (.int .i64 0) := (blk_cell BK199.out 7).trans rfl; have hfz12_0 := blk_frozen BK199.out 0; have hfz12_1 := blk_frozen BK199.out 1; have hfz12_2 := blk_frozen BK199.out 2; have hfz12_3 := blk_frozen BK199.out 3; have hfz12_4 := blk_frozen BK199.out 4; have hfz12_5 := blk_frozen BK199.out 5; have hfz12_6 := blk_frozen BK199.out 6; have hfz12_7 := blk_frozen BK199.out 7) | ((with_reducible refine gate_callee (f := 11) rfl ?_); refine goesL_ (some 35) rfl rfl Tryd.func11 (by kernel_rfl) rfl #[.slice A0 l0.length c0, .int .u8 (Go.bits .and .u8 a1 7)] rfl (by (try simp only [List.map_toArray, List.map_cons, List.map_nil]); first | done | rfl | (simp only [List.length_drop, List.length_take]; rfl)) ?_; (with_reducible refine (operand_Take.calls _ _ l0 (Go.bits .and .u8 a1 7) t200 t201 t202 t203 t204 t205 t206 t207 t208 t209 t210 _ ?side1 ?side2 A7.out).mono ?_); (case side1 => exact Kd.C_below HR0.out (by repeat (first | (with_reducible first | exact HB.out | apply below_alloc | apply pw_below_drewN | apply below_drew1 | refine below_set ?_ GE199.out) | exact HB.out))); (case side2 => exact HC0.out); rintro e w13 ⟨rfl, hb⟩; refine ⟨_, rfl, ?_⟩; have n0_ := Aside0.mk (blk_below (g := gb199) (o := .cells #[.int .u8 t189, .int .i64 t190, .int .i64 t191, .int .i64 t192, .int .i64 t193, .int .i64 t194, .bool t195, .int .i64 t196] 23 (0, 0)) (by (with_reducible repeat (first | refine blk_drewN ?_ _ | refine blk_drew ?_ | refine blk_alloc ?_ _)); refine blk_put (cs := #[.int .u8 t189, .int .i64 t190, .int .i64 t191, .int .i64 t192, .int .i64 t193, .int .i64 t194, .bool t195, .int .i64 0]) ?_ 7 _ rfl; (with_reducible repeat (first | refine blk_drewN ?_ _ | refine blk_drew ?_ | refine blk_alloc ?_ _)); refine blk_put (cs := #[.int .u8 t189, .int .i64 t190, .int .i64 t191, .int .i64 t192, .int .i64 t193, .int .i64 t194, .bool false, .int .i64 0]) ?_ 6 _ rfl; (with_reducible repeat (first | refine blk_drewN ?_ _ | refine blk_drew ?_ | refine blk_alloc ?_ _)); refine blk_put (cs := #[.int .u8 t189, .int .i64 t190, .int .i64 t191, .int .i64 t192, .int .i64 t193, .int .i64 0, .bool false, .int .i64 0]) ?_ 5 _ rfl; (with_reducible repeat (first | refine blk_drewN ?_ _ | refine blk_drew ?_ | refine blk_alloc ?_ _)); refine blk_put (cs := #[.int .u8 t189, .int .i64 t190, .int .i64 t191, .int .i64 t192, .int .i64 0, .int .i64 0, .bool false, .int .i64 0]) ?_ 4 _ rfl; (with_reducible repeat (first | refine blk_drewN ?_ _ | refine blk_drew ?_ | refine blk_alloc ?_ _)); refine blk_put (cs := #[.int .u8 t189, .int .i64 t190, .int .i64 t191, .int .i64 0, .int .i64 0, .int .i64 0, .bool false, .int .i64 0]) ?_ 3 _ rfl; (with_reducible repeat (first | refine blk_drewN ?_ _ | refine blk_drew ?_ | refine blk_alloc ?_ _)); refine blk_put (cs := #[.int .u8 t189, .int .i64 t190, .int .i64 0, .int .i64 0, .int .i64 0, .int .i64 0, .bool false, .int .i64 0]) ?_ 2 _ rfl; (with_reducible repeat (first | refine blk_drewN ?_ _ | refine blk_drew ?_ | refine blk_alloc ?_ _)); refine blk_put (cs := #[.int .u8 t189, .int .i64 0, .int .i64 0, .int .i64 0, .int .i64 0, .int .i64 0, .bool false, .int .i64 0]) ?_ 1 _ rfl; (with_reducible repeat (first | refine blk_drewN ?_ _ | refine blk_drew ?_ | refine blk_alloc ?_ _)); refine blk_put (cs := #[.int .u8 0, .int .i64 0, .int .i64 0, .int .i64 0, .int .i64 0, .int .i64 0, .bool false, .int .i64 0]) ?_ 0 _ rfl; (with_reducible repeat (first | refine blk_drewN ?_ _ | refine blk_drew ?_ | refine blk_alloc ?_ _)); exact BK199.out) hb); have n1_ := Aside0.mk (below_step (by repeat (first | (with_reducible first | exact HB.out | apply below_alloc | apply pw_below_drewN | apply below_drew1 | refine below_set ?_ GE199.out) | exact HB.out)) hb); clear BK199; clear HB; have BK199 := n0_; have HB := n1_; clear n0_ n1_; (try clear hb); (try clear hb2); (try clear hk); (try clear hi)) | ((with_reducible refine gate_dst (N := 10) rfl ?_); (try (refine gate_guard (by rfl) ?_; dsimp only)); refine box_event ?hg (N := 10) ?hd (cs := #[.int .u8 0, .int .i64 0, .int .i64 0, .int .i64 0, .int .i64 0, .int .i64 0, .bool false, .int .i64 0]) (t := 23) ?hr ?_; (case hd => rfl); (case hg => rfl); (case hr => first | (go_simp; done) | (go_simp; rfl)); intro gb211 hg w14 hbox hb; have n0_ := Aside0.mk (blk_below (g := gb199) (o := .cells #[.int .u8 t189, .int .i64 t190, .int .i64 t191, .int .i64 t192, .int .i64 t193, .int .i64 t194, .bool t195, .int .i64 t196] 23 (0, 0)) (by (with_reducible repeat (first | refine blk_drewN ?_ _ | refine blk_drew ?_ | refine blk_alloc ?_ _)); exact BK199.out) hb); have n1_ := Aside0.mk (below_step (by repeat (first | (with_reducible first | exact HB.out | apply below_alloc | apply pw_below_drewN | apply below_drew1 | refine below_set ?_ GE199.out) | exact HB.out)) hb); have n2_ := Aside0.mk (hbox); have n3_ := Aside0.mk ((by rw [hg]; exact (below_size (by repeat (first | (with_reducible first | exact HB.out | apply below_alloc | apply pw_below_drewN | apply below_drew1 | refine below_set ?_ GE199.out) | exact HB.out))) : w.heap.size ≤ gb211)); have n4_ := Aside0.mk ((by rw [hg]; exact (below_size (by repeat (first | (with_reducible first | exact HB.out | apply below_alloc | apply pw_below_drewN | apply below_drew1 | refine below_set ?_ GE199.out) | exact HB.out))) : w.heap.size ≤ gb211)); have n5_ := Aside0.mk ((by rw [hg]; exact Nat.ne_of_lt (blk_lt (g := gb199) (o := .cells #[.int .u8 t189, .int .i64 t190, .int .i64 t191, .int .i64 t192, .int .i64 t193, .int .i64 t194, .bool t195, .int .i64 t196] 23 (0, 0)) (by (with_reducible repeat (first | refine blk_drewN ?_ _ | refine blk_drew ?_ | refine blk_alloc ?_ _)); exact BK199.out)) : gb199 ≠ gb211)); have n6_ := Aside0.mk ((by rw [hg]; exact Nat.ne_of_gt (blk_lt (g := gb199) (o := .cells #[.int .u8 t189, .int .i64 t190, .int .i64 t191, .int .i64 t192, .int .i64 t193, .int .i64 t194, .bool t195, .int .i64 t196] 23 (0, 0)) (by (with_reducible repeat (first | refine blk_drewN ?_ _ | refine blk_drew ?_ | refine blk_alloc ?_ _)); exact BK199.out)) : gb211 ≠ gb199)); clear BK199; clear HB; have BK199 := n0_; have HB := n1_; have BK211 := n2_; have GW211 := n3_; have GE211 := n4_; have NB199_211 := n5_; have NB211_199 := n6_; clear n0_ n1_ n2_ n3_ n4_ n5_ n6_; clear hb hbox hg; have hnb15 := NB211_199.out; have hnc15 := NB199_211.out; have hcz16_0 : w14.cell? ⟨gb211, 0, none⟩ = some (.int .u8 0) := (blk_cell BK211.out 0).trans rfl; have hcz16_1 : w14.cell? ⟨gb211, 1, none⟩ = some (.int .i64 0) := (blk_cell BK211.out 1).trans rfl; have hcz16_2 : w14.cell? ⟨gb211, 2, none⟩ = some (.int .i64 0) := (blk_cell BK211.out 2).trans rfl; have hcz16_3 : w14.cell? ⟨gb211, 3, none⟩ = some (.int .i64 0) := (blk_cell BK211.out 3).trans rfl; have hcz16_4 : w14.cell? ⟨gb211, 4, none⟩ = some (.int .i64 0) := (blk_cell BK211.out 4).trans rfl; have hcz16_5 : w14.cell? ⟨gb211, 5, none⟩ = some (.int .i64 0) := (blk_cell BK211.out 5).trans rfl; have hcz16_6 : w14.cell? ⟨gb211, 6, none⟩ = some (.bool false) := (blk_cell BK211.out 6).trans rfl; have hcz16_7 : w14.cell? ⟨gb211, 7, none⟩ = some (.int .i64 0) := (blk_cell BK211.out 7).trans rfl; have hfz16_0 := blk_frozen BK211.out 0; have hfz16_1 := blk_frozen BK211.out 1; have hfz16_2 := blk_frozen BK211.out 2; have hfz16_3 := blk_frozen BK211.out 3; have hfz16_4 := blk_frozen BK211.out 4; have hfz16_5 := blk_frozen BK211.out 5; have hfz16_6 := blk_frozen BK211.out 6; have hfz16_7 := blk_frozen BK211.out 7) | ((with_reducible refine gate_callee (f := 11) rfl ?_); refine goesL_ (some 42) rfl rfl Tryd.func11 (by kernel_rfl) rfl #[.slice A0 l0.length c0, .int .u8 0] rfl (by (try simp only [List.map_toArray, List.map_cons, List.map_nil]); first | done | rfl | (simp only [List.length_drop, List.length_take]; rfl)) ?_; (with_reducible refine (operand_Take.calls _ _ l0 0 t212 t213 t214 t215 t216 t217 t218 t219 t220 t221 t222 _ ?side1 ?side2 A8.out).mono ?_); (case side1 => exact Kd.C_below HR0.out (by repeat (first | (with_reducible first | exact HB.out | apply below_alloc | apply pw_below_drewN | apply below_drew1 | refine below_set ?_ GE199.out | refine below_set ?_ GE211.out) | exact HB.out))); (case side2 => exact HC0.out); rintro e w17 ⟨rfl, hb⟩; refine ⟨_, rfl, ?_⟩; have n0_ := Aside0.mk (blk_below (g := gb199) (o := .cells #[.int .u8 t189, .int .i64 t190, .int .i64 t191, .int .i64 t192, .int .i64 t193, .int .i64 t194, .bool t195, .int .i64 t196] 23 (0, 0)) (by (with_reducible repeat (first | refine blk_drewN ?_ _ | refine blk_drew ?_ | refine blk_alloc ?_ _)); refine blk_far ?_ NB199_211.out _; (with_reducible repeat (first | refine blk_drewN ?_ _ | refine blk_drew ?_ | refine blk_alloc ?_ _)); refine blk_far ?_ NB199_211.out _; (with_reducible repeat (first | refine blk_drewN ?_ _ | refine blk_drew ?_ | refine blk_alloc ?_ _)); refine blk_far ?_ NB199_211.out _; (with_reducible repeat (first | refine blk_drewN ?_ _ | refine blk_drew ?_ | refine blk_alloc ?_ _)); refine blk_far ?_ NB199_211.out _; (with_reducible repeat (first | refine blk_drewN ?_ _ | refine blk_drew ?_ | refine blk_alloc ?_ _)); refine blk_far ?_ NB199_211.out _; (with_reducible repeat (first | refine blk_drewN ?_ _ | refine blk_drew ?_ | refine blk_alloc ?_ _)); refine blk_far ?_ NB199_211.out _; (with_reducible repeat (first | refine blk_drewN ?_ _ | refine blk_drew ?_ | refine blk_alloc ?_ _)); refine blk_far ?_ NB199_211.out _; (with_reducible repeat (first | refine blk_drewN ?_ _ | refine blk_drew ?_ | refine blk_alloc ?_ _)); refine blk_far ?_ NB199_211.out _; (with_reducible repeat (first | refine blk_drewN ?_ _ | refine blk_drew ?_ | refine blk_alloc ?_ _)); exact BK199.out) hb); have n1_ := Aside0.mk (blk_below (g := gb211) (o := .cells #[.int .u8 t201, .int .i64 t202, .int .i64 t203, .int .i64 t204, .int .i64 t205, .int .i64 t206, .bool t207, .int .i64 t208] 23 (0, 0)) (by (with_reducible repeat (first | refine blk_drewN ?_ _ | refine blk_drew ?_ | refine blk_alloc ?_ _)); refine blk_put (cs := #[.int .u8 t201, .int .i64 t202, .int .i64 t203, .int .i64 t204, .int .i64 t205, .int .i64 t206, .bool t207, .int .i64 0]) ?_ 7 _ rfl; (with_reducible repeat (first | refine blk_drewN ?_ _ | refine blk_drew ?_ | refine blk_alloc ?_ _)); refine blk_put (cs := #[.int .u8 t201, .int .i64 t202, .int .i64 t203, .int .i64 t204, .int .i64 t205, .int .i64 t206, .bool false, .int .i64 0]) ?_ 6 _ rfl; (with_reducible repeat (first | refine blk_drewN ?_ _ | refine blk_drew ?_ | refine blk_alloc ?_ _)); refine blk_put (cs := #[.int .u8 t201, .int .i64 t202, .int .i64 t203, .int .i64 t204, .int .i64 t205, .int .i64 0, .bool false, .int .i64 0]) ?_ 5 _ rfl; (with_reducible repeat (first | refine blk_drewN ?_ _ | refine blk_drew ?_ | refine blk_alloc ?_ _)); refine blk_put (cs := #[.int .u8 t201, .int .i64 t202, .int .i64 t203, .int .i64 t204, .int .i64 0, .int .i64 0, .bool false, .int .i64 0]) ?_ 4 _ rfl; (with_reducible repeat (first | refine blk_drewN ?_ _ | refine blk_drew ?_ | refine blk_alloc ?_ _)); refine blk_put (cs := #[.int .u8 t201, .int .i64 t202, .int .i64 t203, .int .i64 0, .int .i64 0, .int .i64 0, .bool false, .int .i64 0]) ?_ 3 _ rfl; (with_reducible repeat (first | refine blk_drewN ?_ _ | refine blk_drew ?_ | refine blk_alloc ?_ _)); refine blk_put (cs := #[.int .u8 t201, .int .i64 t202, .int .i64 0, .int .i64 0, .int .i64 0, .int .i64 0, .bool false, .int .i64 0]) ?_ 2 _ rfl; (with_reducible repeat (first | refine blk_drewN ?_ _ | refine blk_drew ?_ | refine blk_alloc ?_ _)); refine blk_put (cs := #[.int .u8 t201, .int .i64 0, .int .i64 0, .int .i64 0, .int .i64 0, .int .i64 0, .bool false, .int .i64 0]) ?_ 1 _ rfl; (with_reducible repeat (first | refine blk_drewN ?_ _ | refine blk_drew ?_ | refine blk_alloc ?_ _)); refine blk_put (cs := #[.int .u8 0, .int .i64 0, .int .i64 0, .int .i64 0, .int .i64 0, .int .i64 0, .bool false, .int .i64 0]) ?_ 0 _ rfl; (with_reducible repeat (first | refine blk_drewN ?_ _ | refine blk_drew ?_ | refine blk_alloc ?_ _)); exact BK211.out) hb); have n2_ := Aside0.mk (below_step (by repeat (first | (with_reducible first | exact HB.out | apply below_alloc | apply pw_below_drewN | apply below_drew1 | refine below_set ?_ GE199.out | refine below_set ?_ GE211.out) | exact HB.out)) hb); clear BK199; clear BK211; clear HB; have BK199 := n0_; have BK211 := n1_; have HB := n2_; clear n0_ n1_ n2_; (try clear hb); (try clear hb2); (try clear hk); (try clear hi)) | ((with_reducible refine gate_dst (N := 14) rfl ?_); (try (refine gate_guard (by rfl) ?_; dsimp only)); refine box_event ?hg (N := 14) ?hd (cs := #[.int .u8 0, .int .i64 0, .int .i64 0, .int .i64 0, .int .i64 0, .int .i64 0, .bool false, .int .i64 0]) (t := 23) ?hr ?_; (case hd => rfl); (case hg => rfl); (case hr => first | (go_simp; done) | (go_simp; rfl)); intro gb223 hg w18 hbox hb; have n0_ := Aside0.mk (blk_below (g := gb199) (o := .cells #[.int .u8 t189, .int .i64 t190, .int .i64 t191, .int .i64 t192, .int .i64 t193, .int .i64 t194, .bool t195, .int .i64 t196] 23 (0, 0)) (by (with_reducible repeat (first | refine blk_drewN ?_ _ | refine blk_drew ?_ | refine blk_alloc ?_ _)); exact BK199.out) hb); have n1_ := Aside0.mk (blk_below (g := gb211) (o := .cells #[.int .u8 t201, .int .i64 t202, .int .i64 t203, .int .i64 t204, .int .i64 t205, .int .i64 t206, .bool t207, .int .i64 t208] 23 (0, 0)) (by (with_reducible repeat (first | refine blk_drewN ?_ _ | refine blk_drew ?_ | refine blk_alloc ?_ _)); exact BK211.out) hb); have n2_ := Aside0.mk (below_step (by repeat (first | (with_reducible first | exact HB.out | apply below_alloc | apply pw_below_drewN | apply below_drew1 | refine below_set ?_ GE199.out | refine below_set ?_ GE211.out) | exact HB.out)) hb); have n3_ := Aside0.mk (hbox); have n4_ := Aside0.mk ((by rw [hg]; exact (below_size (by repeat (first | (with_reducible first | exact HB.out | apply below_alloc | apply pw_below_drewN | apply below_drew1 | refine below_set ?_ GE199.out | refine below_set ?_ GE211.out) | exact HB.out))) : w.heap.size ≤ gb223)); have n5_ := Aside0.mk ((by rw [hg]; exact (below_size (by repeat (first | (with_reducible first | exact HB.out | apply below_alloc | apply pw_below_drewN | apply below_drew1 | refine below_set ?_ GE199.out | refine below_set ?_ GE211.out) | exact HB.out))) : w.heap.size ≤ gb223)); have n6_ := Aside0.mk ((by rw [hg]; exact Nat.ne_of_lt (blk_lt (g := gb199) (o := .cells #[.int .u8 t189, .int .i64 t190, .int .i64 t191, .int .i64 t192, .int .i64 t193, .int .i64 t194, .bool t195, .int .i64 t196] 23 (0, 0)) (by (with_reducible repeat (first | refine blk_drewN ?_ _ | refine blk_drew ?_ | refine blk_alloc ?_ _)); exact BK199.out)) : gb199 ≠ gb223)); have n7_ := Aside0.mk ((by rw [hg]; exact Nat.ne_of_gt (blk_lt (g := gb199) (o := .cells #[.int .u8 t189, .int .i64 t190, .int .i64 t191, .int .i64 t192, .int .i64 t193, .int .i64 t194, .bool t195, .int .i64 t196] 23 (0, 0)) (by (with_reducible repeat (first | refine blk_drewN ?_ _ | refine blk_drew ?_ | refine blk_alloc ?_ _)); exact BK199.out)) : gb223 ≠ gb199)); have n8_ := Aside0.mk ((by rw [hg]; exact Nat.ne_of_lt (blk_lt (g := gb211) (o := .cells #[.int .u8 t201, .int .i64 t202, .int .i64 t203, .int .i64 t204, .int .i64 t205, .int .i64 t206, .bool t207, .int .i64 t208] 23 (0, 0)) (by (with_reducible repeat (first | refine blk_drewN ?_ _ | refine blk_drew ?_ | refine blk_alloc ?_ _)); exact BK211.out)) : gb211 ≠ gb223)); have n9_ := Aside0.mk ((by rw [hg]; exact Nat.ne_of_gt (blk_lt (g := gb211) (o := .cells #[.int .u8 t201, .int .i64 t202, .int .i64 t203, .int .i64 t204, .int .i64 t205, .int .i64 t206, .bool t207, .int .i64 t208] 23 (0, 0)) (by (with_reducible repeat (first | refine blk_drewN ?_ _ | refine blk_drew ?_ | refine blk_alloc ?_ _)); exact BK211.out)) : gb223 ≠ gb211)); clear BK199; clear BK211; clear HB; have BK199 := n0_; have BK211 := n1_; have HB := n2_; have BK223 := n3_; have GW223 := n4_; have GE223 := n5_; have NB199_223 := n6_; have NB223_199 := n7_; have NB211_223 := n8_; have NB223_211 := n9_; clear n0_ n1_ n2_ n3_ n4_ n5_ n6_ n7_ n8_ n9_; clear hb hbox hg; have hnb19 := NB223_199.out; have hnc19 := NB199_223.out; have hnb20 := NB223_211.out; have hnc20 := NB211_223.out; have hcz21_0 : w18.cell? ⟨gb223, 0, none⟩ = some (.int .u8 0) := (blk_cell BK223.out 0).trans rfl; have hcz21_1 : w18.cell? ⟨gb223, 1, none⟩ = some (.int .i64 0) := (blk_cell BK223.out 1).trans rfl; have hcz21_2 : w18.cell? ⟨gb223, 2, none⟩ = some (.int .i64 0) := (blk_cell BK223.out 2).trans rfl; have hcz21_3 : w18.cell? ⟨gb223, 3, none⟩ = some (.int .i64 0) := (blk_cell BK223.out 3).trans rfl; have hcz21_4 : w18.cell? ⟨gb223, 4, none⟩ = some (.int .i64 0) := (blk_cell BK223.out 4).trans rfl; have hcz21_5 : w18.cell? ⟨gb223, 5, none⟩ = some (.int .i64 0) := (blk_cell BK223.out 5).trans rfl; have hcz21_6 : w18.cell? ⟨gb223, 6, none⟩ = some (.bool false) := (blk_cell BK223.out 6).trans rfl; have hcz21_7 : w18.cell? ⟨gb223, 7, none⟩ = some (.int .i64 0) := (blk_cell BK223.out 7).trans rfl; have hfz21_0 := blk_frozen BK223.out 0; have hfz21_1 := blk_frozen BK223.out 1; have hfz21_2 := blk_frozen BK223.out 2; have hfz21_3 := blk_frozen BK223.out 3; have hfz21_4 := blk_frozen BK223.out 4; have hfz21_5 := blk_frozen BK223.out 5; have hfz21_6 := blk_frozen BK223.out 6; have hfz21_7 := blk_frozen BK223.out 7))
      (try simp only [Act.put, List.setIfInBounds_toArray, List.set_cons_zero, List.set_cons_succ])
      go_cut [74] (fun v74 wc => ∃ (kq : Nat) (x74_8 : Bool), v74 = .bool x74_8 ∧ Aside0 (sundiallaw08_OperandParts.j0 kq a1 t188 t198 t212 x74_8 t189 t190 t191 t192 t193 t194 t195 t196 t213 t214 t215 t216 t217 t218 t219 t220 = some true) ∧ Aside0 (kq ≤ k) ∧ Aside0 (wc.heap[gb199]? = some (.cells #[.int .u8 t189, .int .i64 t190, .int .i64 t191, .int .i64 t192, .int .i64 t193, .int .i64 t194, .bool t195, .int .i64 t196] 23 (0, 0))) ∧ Aside0 (wc.heap[gb211]? = some (.cells #[.int .u8 t201, .int .i64 t202, .int .i64 t203, .int .i64 t204, .int .i64 t205, .int .i64 t206, .bool t207, .int .i64 t208] 23 (0, 0))) ∧ Aside0 (wc.heap[gb223]? = some (.cells #[.int .u8 t213, .int .i64 t214, .int .i64 t215, .int .i64 t216, .int .i64 t217, .int .i64 t218, .bool t219, .int .i64 t220] 23 (0, 0))) ∧ Aside0 (Below w.heap.size w wc))
      case first =>
        have H := HC9.out
        clear HC9
        by_cases c22 : t188 = t200
        · rw [if_pos c22] at H
          try first | (with_reducible exact absurd H (sundiallaw08_OperandParts.j0_no ..)) | (with_reducible exact absurd H (sundiallaw08_OperandParts.j1_no ..)) | (with_reducible exact absurd H (sundiallaw08_OperandParts.some_no))
          all_goals
            have c22b0 : (t188 == t200) = true := beq_iff_eq.mpr c22
            have c22b1 : (t188 != t200) = false := bne_eq_false_iff_eq.mpr c22
            clear c22
            (first | rw [c22b0] | (simp only [i64_w, i32_w]; rw [c22b0]) | skip)
            by_cases c23 : (!(t189 == t201) || (!(t190 == t202) || (!(t191 == t203) || (!(t192 == t204) || (!(t193 == t205) || (!(t194 == t206) || (!(t195 == t207) || (!(t196 == t208))))))))) = true
            · rw [if_pos c23] at H
              try first | (with_reducible exact absurd H (sundiallaw08_OperandParts.j0_no ..)) | (with_reducible exact absurd H (sundiallaw08_OperandParts.j1_no ..)) | (with_reducible exact absurd H (sundiallaw08_OperandParts.some_no))
              all_goals
                have c23b0 : (!(t189 == t201) || (!(t190 == t202) || (!(t191 == t203) || (!(t192 == t204) || (!(t193 == t205) || (!(t194 == t206) || (!(t195 == t207) || (!(t196 == t208))))))))) = true := c23
                clear c23
                have H' := Aside0.mk H
                clear H
                have hnb24 := NB199_211.out
                have hnc24 := NB211_199.out
                have hnb25 := NB199_223.out
                have hnc25 := NB223_199.out
                have hcz26_0 : w18.cell? ⟨gb199, 0, none⟩ = some (.int .u8 t189) := (blk_cell BK199.out 0).trans rfl
                have hcz26_1 : w18.cell? ⟨gb199, 1, none⟩ = some (.int .i64 t190) := (blk_cell BK199.out 1).trans rfl
                have hcz26_2 : w18.cell? ⟨gb199, 2, none⟩ = some (.int .i64 t191) := (blk_cell BK199.out 2).trans rfl
                have hcz26_3 : w18.cell? ⟨gb199, 3, none⟩ = some (.int .i64 t192) := (blk_cell BK199.out 3).trans rfl
                have hcz26_4 : w18.cell? ⟨gb199, 4, none⟩ = some (.int .i64 t193) := (blk_cell BK199.out 4).trans rfl
                have hcz26_5 : w18.cell? ⟨gb199, 5, none⟩ = some (.int .i64 t194) := (blk_cell BK199.out 5).trans rfl
                have hcz26_6 : w18.cell? ⟨gb199, 6, none⟩ = some (.bool t195) := (blk_cell BK199.out 6).trans rfl
                have hcz26_7 : w18.cell? ⟨gb199, 7, none⟩ = some (.int .i64 t196) := (blk_cell BK199.out 7).trans rfl
                have hfz26_0 := blk_frozen BK199.out 0
                have hfz26_1 := blk_frozen BK199.out 1
                have hfz26_2 := blk_frozen BK199.out 2
                have hfz26_3 := blk_frozen BK199.out 3
                have hfz26_4 := blk_frozen BK199.out 4
                have hfz26_5 := blk_frozen BK199.out 5
                have hfz26_6 := blk_frozen BK199.out 6
                have hfz26_7 := blk_frozen BK199.out 7
                have hnb27 := NB211_223.out
                have hnc27 := NB223_211.out
                have hcz28_0 : w18.cell? ⟨gb211, 0, none⟩ = some (.int .u8 t201) := (blk_cell BK211.out 0).trans rfl
                have hcz28_1 : w18.cell? ⟨gb211, 1, none⟩ = some (.int .i64 t202) := (blk_cell BK211.out 1).trans rfl
                have hcz28_2 : w18.cell? ⟨gb211, 2, none⟩ = some (.int .i64 t203) := (blk_cell BK211.out 2).trans rfl
                have hcz28_3 : w18.cell? ⟨gb211, 3, none⟩ = some (.int .i64 t204) := (blk_cell BK211.out 3).trans rfl
                have hcz28_4 : w18.cell? ⟨gb211, 4, none⟩ = some (.int .i64 t205) := (blk_cell BK211.out 4).trans rfl
                have hcz28_5 : w18.cell? ⟨gb211, 5, none⟩ = some (.int .i64 t206) := (blk_cell BK211.out 5).trans rfl
                have hcz28_6 : w18.cell? ⟨gb211, 6, none⟩ = some (.bool t207) := (blk_cell BK211.out 6).trans rfl
                have hcz28_7 : w18.cell? ⟨gb211, 7, none⟩ = some (.int .i64 t208) := (blk_cell BK211.out 7).trans rfl
                have hfz28_0 := blk_frozen BK211.out 0
                have hfz28_1 := blk_frozen BK211.out 1
                have hfz28_2 := blk_frozen BK211.out 2
                have hfz28_3 := blk_frozen BK211.out 3
                have hfz28_4 := blk_frozen BK211.out 4
                have hfz28_5 := blk_frozen BK211.out 5
                have hfz28_6 := blk_frozen BK211.out 6
                have hfz28_7 := blk_frozen BK211.out 7
                go_wp2
                go_meet
                case rel => exact ⟨_, (true), (by first | rfl | (simp; done) | (simp [*]; done)), H', ⟨by first | omega | exact Nat.le_refl _⟩, ⟨by (with_reducible repeat (first | refine blk_drewN ?_ _ | refine blk_drew ?_ | refine blk_alloc ?_ _)); refine blk_far ?_ NB199_223.out _; (with_reducible repeat (first | refine blk_drewN ?_ _ | refine blk_drew ?_ | refine blk_alloc ?_ _)); refine blk_far ?_ NB199_223.out _; (with_reducible repeat (first | refine blk_drewN ?_ _ | refine blk_drew ?_ | refine blk_alloc ?_ _)); refine blk_far ?_ NB199_223.out _; (with_reducible repeat (first | refine blk_drewN ?_ _ | refine blk_drew ?_ | refine blk_alloc ?_ _)); refine blk_far ?_ NB199_223.out _; (with_reducible repeat (first | refine blk_drewN ?_ _ | refine blk_drew ?_ | refine blk_alloc ?_ _)); refine blk_far ?_ NB199_223.out _; (with_reducible repeat (first | refine blk_drewN ?_ _ | refine blk_drew ?_ | refine blk_alloc ?_ _)); refine blk_far ?_ NB199_223.out _; (with_reducible repeat (first | refine blk_drewN ?_ _ | refine blk_drew ?_ | refine blk_alloc ?_ _)); refine blk_far ?_ NB199_223.out _; (with_reducible repeat (first | refine blk_drewN ?_ _ | refine blk_drew ?_ | refine blk_alloc ?_ _)); refine blk_far ?_ NB199_223.out _; (with_reducible repeat (first | refine blk_drewN ?_ _ | refine blk_drew ?_ | refine blk_alloc ?_ _)); exact BK199.out⟩, ⟨by (with_reducible repeat (first | refine blk_drewN ?_ _ | refine blk_drew ?_ | refine blk_alloc ?_ _)); refine blk_far ?_ NB211_223.out _; (with_reducible repeat (first | refine blk_drewN ?_ _ | refine blk_drew ?_ | refine blk_alloc ?_ _)); refine blk_far ?_ NB211_223.out _; (with_reducible repeat (first | refine blk_drewN ?_ _ | refine blk_drew ?_ | refine blk_alloc ?_ _)); refine blk_far ?_ NB211_223.out _; (with_reducible repeat (first | refine blk_drewN ?_ _ | refine blk_drew ?_ | refine blk_alloc ?_ _)); refine blk_far ?_ NB211_223.out _; (with_reducible repeat (first | refine blk_drewN ?_ _ | refine blk_drew ?_ | refine blk_alloc ?_ _)); refine blk_far ?_ NB211_223.out _; (with_reducible repeat (first | refine blk_drewN ?_ _ | refine blk_drew ?_ | refine blk_alloc ?_ _)); refine blk_far ?_ NB211_223.out _; (with_reducible repeat (first | refine blk_drewN ?_ _ | refine blk_drew ?_ | refine blk_alloc ?_ _)); refine blk_far ?_ NB211_223.out _; (with_reducible repeat (first | refine blk_drewN ?_ _ | refine blk_drew ?_ | refine blk_alloc ?_ _)); refine blk_far ?_ NB211_223.out _; (with_reducible repeat (first | refine blk_drewN ?_ _ | refine blk_drew ?_ | refine blk_alloc ?_ _)); exact BK211.out⟩, ⟨by (with_reducible repeat (first | refine blk_drewN ?_ _ | refine blk_drew ?_ | refine blk_alloc ?_ _)); refine blk_put (cs := #[.int .u8 t213, .int .i64 t214, .int .i64 t215, .int .i64 t216, .int .i64 t217, .int .i64 t218, .bool t219, .int .i64 0]) ?_ 7 _ rfl; (with_reducible repeat (first | refine blk_drewN ?_ _ | refine blk_drew ?_ | refine blk_alloc ?_ _)); refine blk_put (cs := #[.int .u8 t213, .int .i64 t214, .int .i64 t215, .int .i64 t216, .int .i64 t217, .int .i64 t218, .bool false, .int .i64 0]) ?_ 6 _ rfl; (with_reducible repeat (first | refine blk_drewN ?_ _ | refine blk_drew ?_ | refine blk_alloc ?_ _)); refine blk_put (cs := #[.int .u8 t213, .int .i64 t214, .int .i64 t215, .int .i64 t216, .int .i64 t217, .int .i64 0, .bool false, .int .i64 0]) ?_ 5 _ rfl; (with_reducible repeat (first | refine blk_drewN ?_ _ | refine blk_drew ?_ | refine blk_alloc ?_ _)); refine blk_put (cs := #[.int .u8 t213, .int .i64 t214, .int .i64 t215, .int .i64 t216, .int .i64 0, .int .i64 0, .bool false, .int .i64 0]) ?_ 4 _ rfl; (with_reducible repeat (first | refine blk_drewN ?_ _ | refine blk_drew ?_ | refine blk_alloc ?_ _)); refine blk_put (cs := #[.int .u8 t213, .int .i64 t214, .int .i64 t215, .int .i64 0, .int .i64 0, .int .i64 0, .bool false, .int .i64 0]) ?_ 3 _ rfl; (with_reducible repeat (first | refine blk_drewN ?_ _ | refine blk_drew ?_ | refine blk_alloc ?_ _)); refine blk_put (cs := #[.int .u8 t213, .int .i64 t214, .int .i64 0, .int .i64 0, .int .i64 0, .int .i64 0, .bool false, .int .i64 0]) ?_ 2 _ rfl; (with_reducible repeat (first | refine blk_drewN ?_ _ | refine blk_drew ?_ | refine blk_alloc ?_ _)); refine blk_put (cs := #[.int .u8 t213, .int .i64 0, .int .i64 0, .int .i64 0, .int .i64 0, .int .i64 0, .bool false, .int .i64 0]) ?_ 1 _ rfl; (with_reducible repeat (first | refine blk_drewN ?_ _ | refine blk_drew ?_ | refine blk_alloc ?_ _)); refine blk_put (cs := #[.int .u8 0, .int .i64 0, .int .i64 0, .int .i64 0, .int .i64 0, .int .i64 0, .bool false, .int .i64 0]) ?_ 0 _ rfl; (with_reducible repeat (first | refine blk_drewN ?_ _ | refine blk_drew ?_ | refine blk_alloc ?_ _)); exact BK223.out⟩, ⟨by repeat (first | (with_reducible first | exact HB.out | apply below_alloc | apply pw_below_drewN | apply below_drew1 | refine below_set ?_ GE199.out | refine below_set ?_ GE211.out | refine below_set ?_ GE223.out) | exact HB.out)⟩⟩
            · rw [if_neg c23] at H
              try first | (with_reducible exact absurd H (sundiallaw08_OperandParts.j0_no ..)) | (with_reducible exact absurd H (sundiallaw08_OperandParts.j1_no ..)) | (with_reducible exact absurd H (sundiallaw08_OperandParts.some_no))
              all_goals
                have c23b0 : (!(t189 == t201) || (!(t190 == t202) || (!(t191 == t203) || (!(t192 == t204) || (!(t193 == t205) || (!(t194 == t206) || (!(t195 == t207) || (!(t196 == t208))))))))) = false := by simpa using c23
                clear c23
                by_cases c29 : t197 = t209
                · rw [if_pos c29] at H
                  try first | (with_reducible exact absurd H (sundiallaw08_OperandParts.j0_no ..)) | (with_reducible exact absurd H (sundiallaw08_OperandParts.j1_no ..)) | (with_reducible exact absurd H (sundiallaw08_OperandParts.some_no))
                  all_goals
                    have c29b0 : (t197 == t209) = true := beq_iff_eq.mpr c29
                    have c29b1 : (t197 != t209) = false := bne_eq_false_iff_eq.mpr c29
                    clear c29
                    by_cases c30 : t198 = t210
                    · rw [if_pos c30] at H
                      try first | (with_reducible exact absurd H (sundiallaw08_OperandParts.j0_no ..)) | (with_reducible exact absurd H (sundiallaw08_OperandParts.j1_no ..)) | (with_reducible exact absurd H (sundiallaw08_OperandParts.some_no))
                      all_goals
                        have c30b0 : (t198 == t210) = true := beq_iff_eq.mpr c30
                        have c30b1 : (t198 != t210) = false := bne_eq_false_iff_eq.mpr c30
                        clear c30
                        by_cases c31 : t221 = t197
                        · rw [if_pos c31] at H
                          try first | (with_reducible exact absurd H (sundiallaw08_OperandParts.j0_no ..)) | (with_reducible exact absurd H (sundiallaw08_OperandParts.j1_no ..)) | (with_reducible exact absurd H (sundiallaw08_OperandParts.some_no))
                          all_goals
                            have c31b0 : (t221 == t197) = true := beq_iff_eq.mpr c31
                            have c31b1 : (t221 != t197) = false := bne_eq_false_iff_eq.mpr c31
                            clear c31
                            have H' := Aside0.mk H
                            clear H
                            have hnb32 := NB199_211.out
                            have hnc32 := NB211_199.out
                            have hnb33 := NB199_223.out
                            have hnc33 := NB223_199.out
                            have hcz34_0 : w18.cell? ⟨gb199, 0, none⟩ = some (.int .u8 t189) := (blk_cell BK199.out 0).trans rfl
                            have hcz34_1 : w18.cell? ⟨gb199, 1, none⟩ = some (.int .i64 t190) := (blk_cell BK199.out 1).trans rfl
                            have hcz34_2 : w18.cell? ⟨gb199, 2, none⟩ = some (.int .i64 t191) := (blk_cell BK199.out 2).trans rfl
                            have hcz34_3 : w18.cell? ⟨gb199, 3, none⟩ = some (.int .i64 t192) := (blk_cell BK199.out 3).trans rfl
                            have hcz34_4 : w18.cell? ⟨gb199, 4, none⟩ = some (.int .i64 t193) := (blk_cell BK199.out 4).trans rfl
                            have hcz34_5 : w18.cell? ⟨gb199, 5, none⟩ = some (.int .i64 t194) := (blk_cell BK199.out 5).trans rfl
                            have hcz34_6 : w18.cell? ⟨gb199, 6, none⟩ = some (.bool t195) := (blk_cell BK199.out 6).trans rfl
                            have hcz34_7 : w18.cell? ⟨gb199, 7, none⟩ = some (.int .i64 t196) := (blk_cell BK199.out 7).trans rfl
                            have hfz34_0 := blk_frozen BK199.out 0
                            have hfz34_1 := blk_frozen BK199.out 1
                            have hfz34_2 := blk_frozen BK199.out 2
                            have hfz34_3 := blk_frozen BK199.out 3
                            have hfz34_4 := blk_frozen BK199.out 4
                            have hfz34_5 := blk_frozen BK199.out 5
                            have hfz34_6 := blk_frozen BK199.out 6
                            have hfz34_7 := blk_frozen BK199.out 7
                            have hnb35 := NB211_223.out
                            have hnc35 := NB223_211.out
                            have hcz36_0 : w18.cell? ⟨gb211, 0, none⟩ = some (.int .u8 t201) := (blk_cell BK211.out 0).trans rfl
                            have hcz36_1 : w18.cell? ⟨gb211, 1, none⟩ = some (.int .i64 t202) := (blk_cell BK211.out 1).trans rfl
                            have hcz36_2 : w18.cell? ⟨gb211, 2, none⟩ = some (.int .i64 t203) := (blk_cell BK211.out 2).trans rfl
                            have hcz36_3 : w18.cell? ⟨gb211, 3, none⟩ = some (.int .i64 t204) := (blk_cell BK211.out 3).trans rfl
                            have hcz36_4 : w18.cell? ⟨gb211, 4, none⟩ = some (.int .i64 t205) := (blk_cell BK211.out 4).trans rfl
                            have hcz36_5 : w18.cell? ⟨gb211, 5, none⟩ = some (.int .i64 t206) := (blk_cell BK211.out 5).trans rfl
                            have hcz36_6 : w18.cell? ⟨gb211, 6, none⟩ = some (.bool t207) := (blk_cell BK211.out 6).trans rfl
                            have hcz36_7 : w18.cell? ⟨gb211, 7, none⟩ = some (.int .i64 t208) := (blk_cell BK211.out 7).trans rfl
                            have hfz36_0 := blk_frozen BK211.out 0
                            have hfz36_1 := blk_frozen BK211.out 1
                            have hfz36_2 := blk_frozen BK211.out 2
                            have hfz36_3 := blk_frozen BK211.out 3
                            have hfz36_4 := blk_frozen BK211.out 4
                            have hfz36_5 := blk_frozen BK211.out 5
                            have hfz36_6 := blk_frozen BK211.out 6
                            have hfz36_7 := blk_frozen BK211.out 7
                            go_wp2
                            go_meet
                            case rel => exact ⟨_, ((t222 != t198)), (by first | rfl | (simp; done) | (simp [*]; done)), H', ⟨by first | omega | exact Nat.le_refl _⟩, ⟨by (with_reducible repeat (first | refine blk_drewN ?_ _ | refine blk_drew ?_ | refine blk_alloc ?_ _)); refine blk_far ?_ NB199_223.out _; (with_reducible repeat (first | refine blk_drewN ?_ _ | refine blk_drew ?_ | refine blk_alloc ?_ _)); refine blk_far ?_ NB199_223.out _; (with_reducible repeat (first | refine blk_drewN ?_ _ | refine blk_drew ?_ | refine blk_alloc ?_ _)); refine blk_far ?_ NB199_223.out _; (with_reducible repeat (first | refine blk_drewN ?_ _ | refine blk_drew ?_ | refine blk_alloc ?_ _)); refine blk_far ?_ NB199_223.out _; (with_reducible repeat (first | refine blk_drewN ?_ _ | refine blk_drew ?_ | refine blk_alloc ?_ _)); refine blk_far ?_ NB199_223.out _; (with_reducible repeat (first | refine blk_drewN ?_ _ | refine blk_drew ?_ | refine blk_alloc ?_ _)); refine blk_far ?_ NB199_223.out _; (with_reducible repeat (first | refine blk_drewN ?_ _ | refine blk_drew ?_ | refine blk_alloc ?_ _)); refine blk_far ?_ NB199_223.out _; (with_reducible repeat (first | refine blk_drewN ?_ _ | refine blk_drew ?_ | refine blk_alloc ?_ _)); refine blk_far ?_ NB199_223.out _; (with_reducible repeat (first | refine blk_drewN ?_ _ | refine blk_drew ?_ | refine blk_alloc ?_ _)); exact BK199.out⟩, ⟨by (with_reducible repeat (first | refine blk_drewN ?_ _ | refine blk_drew ?_ | refine blk_alloc ?_ _)); refine blk_far ?_ NB211_223.out _; (with_reducible repeat (first | refine blk_drewN ?_ _ | refine blk_drew ?_ | refine blk_alloc ?_ _)); refine blk_far ?_ NB211_223.out _; (with_reducible repeat (first | refine blk_drewN ?_ _ | refine blk_drew ?_ | refine blk_alloc ?_ _)); refine blk_far ?_ NB211_223.out _; (with_reducible repeat (first | refine blk_drewN ?_ _ | refine blk_drew ?_ | refine blk_alloc ?_ _)); refine blk_far ?_ NB211_223.out _; (with_reducible repeat (first | refine blk_drewN ?_ _ | refine blk_drew ?_ | refine blk_alloc ?_ _)); refine blk_far ?_ NB211_223.out _; (with_reducible repeat (first | refine blk_drewN ?_ _ | refine blk_drew ?_ | refine blk_alloc ?_ _)); refine blk_far ?_ NB211_223.out _; (with_reducible repeat (first | refine blk_drewN ?_ _ | refine blk_drew ?_ | refine blk_alloc ?_ _)); refine blk_far ?_ NB211_223.out _; (with_reducible repeat (first | refine blk_drewN ?_ _ | refine blk_drew ?_ | refine blk_alloc ?_ _)); refine blk_far ?_ NB211_223.out _; (with_reducible repeat (first | refine blk_drewN ?_ _ | refine blk_drew ?_ | refine blk_alloc ?_ _)); exact BK211.out⟩, ⟨by (with_reducible repeat (first | refine blk_drewN ?_ _ | refine blk_drew ?_ | refine blk_alloc ?_ _)); refine blk_put (cs := #[.int .u8 t213, .int .i64 t214, .int .i64 t215, .int .i64 t216, .int .i64 t217, .int .i64 t218, .bool t219, .int .i64 0]) ?_ 7 _ rfl; (with_reducible repeat (first | refine blk_drewN ?_ _ | refine blk_drew ?_ | refine blk_alloc ?_ _)); refine blk_put (cs := #[.int .u8 t213, .int .i64 t214, .int .i64 t215, .int .i64 t216, .int .i64 t217, .int .i64 t218, .bool false, .int .i64 0]) ?_ 6 _ rfl; (with_reducible repeat (first | refine blk_drewN ?_ _ | refine blk_drew ?_ | refine blk_alloc ?_ _)); refine blk_put (cs := #[.int .u8 t213, .int .i64 t214, .int .i64 t215, .int .i64 t216, .int .i64 t217, .int .i64 0, .bool false, .int .i64 0]) ?_ 5 _ rfl; (with_reducible repeat (first | refine blk_drewN ?_ _ | refine blk_drew ?_ | refine blk_alloc ?_ _)); refine blk_put (cs := #[.int .u8 t213, .int .i64 t214, .int .i64 t215, .int .i64 t216, .int .i64 0, .int .i64 0, .bool false, .int .i64 0]) ?_ 4 _ rfl; (with_reducible repeat (first | refine blk_drewN ?_ _ | refine blk_drew ?_ | refine blk_alloc ?_ _)); refine blk_put (cs := #[.int .u8 t213, .int .i64 t214, .int .i64 t215, .int .i64 0, .int .i64 0, .int .i64 0, .bool false, .int .i64 0]) ?_ 3 _ rfl; (with_reducible repeat (first | refine blk_drewN ?_ _ | refine blk_drew ?_ | refine blk_alloc ?_ _)); refine blk_put (cs := #[.int .u8 t213, .int .i64 t214, .int .i64 0, .int .i64 0, .int .i64 0, .int .i64 0, .bool false, .int .i64 0]) ?_ 2 _ rfl; (with_reducible repeat (first | refine blk_drewN ?_ _ | refine blk_drew ?_ | refine blk_alloc ?_ _)); refine blk_put (cs := #[.int .u8 t213, .int .i64 0, .int .i64 0, .int .i64 0, .int .i64 0, .int .i64 0, .bool false, .int .i64 0]) ?_ 1 _ rfl; (with_reducible repeat (first | refine blk_drewN ?_ _ | refine blk_drew ?_ | refine blk_alloc ?_ _)); refine blk_put (cs := #[.int .u8 0, .int .i64 0, .int .i64 0, .int .i64 0, .int .i64 0, .int .i64 0, .bool false, .int .i64 0]) ?_ 0 _ rfl; (with_reducible repeat (first | refine blk_drewN ?_ _ | refine blk_drew ?_ | refine blk_alloc ?_ _)); exact BK223.out⟩, ⟨by repeat (first | (with_reducible first | exact HB.out | apply below_alloc | apply pw_below_drewN | apply below_drew1 | refine below_set ?_ GE199.out | refine below_set ?_ GE211.out | refine below_set ?_ GE223.out) | exact HB.out)⟩⟩
                        · rw [if_neg c31] at H
                          try first | (with_reducible exact absurd H (sundiallaw08_OperandParts.j0_no ..)) | (with_reducible exact absurd H (sundiallaw08_OperandParts.j1_no ..)) | (with_reducible exact absurd H (sundiallaw08_OperandParts.some_no))
                          all_goals
                            have c31b0 : (t221 == t197) = false := beq_eq_false_iff_ne.mpr c31
                            have c31b1 : (t221 != t197) = true := bne_iff_ne.mpr c31
                            have H' := Aside0.mk H
                            clear H
                            have hnb37 := NB199_211.out
                            have hnc37 := NB211_199.out
                            have hnb38 := NB199_223.out
                            have hnc38 := NB223_199.out
                            have hcz39_0 : w18.cell? ⟨gb199, 0, none⟩ = some (.int .u8 t189) := (blk_cell BK199.out 0).trans rfl
                            have hcz39_1 : w18.cell? ⟨gb199, 1, none⟩ = some (.int .i64 t190) := (blk_cell BK199.out 1).trans rfl
                            have hcz39_2 : w18.cell? ⟨gb199, 2, none⟩ = some (.int .i64 t191) := (blk_cell BK199.out 2).trans rfl
                            have hcz39_3 : w18.cell? ⟨gb199, 3, none⟩ = some (.int .i64 t192) := (blk_cell BK199.out 3).trans rfl
                            have hcz39_4 : w18.cell? ⟨gb199, 4, none⟩ = some (.int .i64 t193) := (blk_cell BK199.out 4).trans rfl
                            have hcz39_5 : w18.cell? ⟨gb199, 5, none⟩ = some (.int .i64 t194) := (blk_cell BK199.out 5).trans rfl
                            have hcz39_6 : w18.cell? ⟨gb199, 6, none⟩ = some (.bool t195) := (blk_cell BK199.out 6).trans rfl
                            have hcz39_7 : w18.cell? ⟨gb199, 7, none⟩ = some (.int .i64 t196) := (blk_cell BK199.out 7).trans rfl
                            have hfz39_0 := blk_frozen BK199.out 0
                            have hfz39_1 := blk_frozen BK199.out 1
                            have hfz39_2 := blk_frozen BK199.out 2
                            have hfz39_3 := blk_frozen BK199.out 3
                            have hfz39_4 := blk_frozen BK199.out 4
                            have hfz39_5 := blk_frozen BK199.out 5
                            have hfz39_6 := blk_frozen BK199.out 6
                            have hfz39_7 := blk_frozen BK199.out 7
                            have hnb40 := NB211_223.out
                            have hnc40 := NB223_211.out
                            have hcz41_0 : w18.cell? ⟨gb211, 0, none⟩ = some (.int .u8 t201) := (blk_cell BK211.out 0).trans rfl
                            have hcz41_1 : w18.cell? ⟨gb211, 1, none⟩ = some (.int .i64 t202) := (blk_cell BK211.out 1).trans rfl
                            have hcz41_2 : w18.cell? ⟨gb211, 2, none⟩ = some (.int .i64 t203) := (blk_cell BK211.out 2).trans rfl
                            have hcz41_3 : w18.cell? ⟨gb211, 3, none⟩ = some (.int .i64 t204) := (blk_cell BK211.out 3).trans rfl
                            have hcz41_4 : w18.cell? ⟨gb211, 4, none⟩ = some (.int .i64 t205) := (blk_cell BK211.out 4).trans rfl
                            have hcz41_5 : w18.cell? ⟨gb211, 5, none⟩ = some (.int .i64 t206) := (blk_cell BK211.out 5).trans rfl
                            have hcz41_6 : w18.cell? ⟨gb211, 6, none⟩ = some (.bool t207) := (blk_cell BK211.out 6).trans rfl
                            have hcz41_7 : w18.cell? ⟨gb211, 7, none⟩ = some (.int .i64 t208) := (blk_cell BK211.out 7).trans rfl
                            have hfz41_0 := blk_frozen BK211.out 0
                            have hfz41_1 := blk_frozen BK211.out 1
                            have hfz41_2 := blk_frozen BK211.out 2
                            have hfz41_3 := blk_frozen BK211.out 3
                            have hfz41_4 := blk_frozen BK211.out 4
                            have hfz41_5 := blk_frozen BK211.out 5
                            have hfz41_6 := blk_frozen BK211.out 6
                            have hfz41_7 := blk_frozen BK211.out 7
                            go_wp2
                            go_meet
                            case rel => exact ⟨_, (true), (by first | rfl | (simp; done) | (simp [*]; done)), H', ⟨by first | omega | exact Nat.le_refl _⟩, ⟨by (with_reducible repeat (first | refine blk_drewN ?_ _ | refine blk_drew ?_ | refine blk_alloc ?_ _)); refine blk_far ?_ NB199_223.out _; (with_reducible repeat (first | refine blk_drewN ?_ _ | refine blk_drew ?_ | refine blk_alloc ?_ _)); refine blk_far ?_ NB199_223.out _; (with_reducible repeat (first | refine blk_drewN ?_ _ | refine blk_drew ?_ | refine blk_alloc ?_ _)); refine blk_far ?_ NB199_223.out _; (with_reducible repeat (first | refine blk_drewN ?_ _ | refine blk_drew ?_ | refine blk_alloc ?_ _)); refine blk_far ?_ NB199_223.out _; (with_reducible repeat (first | refine blk_drewN ?_ _ | refine blk_drew ?_ | refine blk_alloc ?_ _)); refine blk_far ?_ NB199_223.out _; (with_reducible repeat (first | refine blk_drewN ?_ _ | refine blk_drew ?_ | refine blk_alloc ?_ _)); refine blk_far ?_ NB199_223.out _; (with_reducible repeat (first | refine blk_drewN ?_ _ | refine blk_drew ?_ | refine blk_alloc ?_ _)); refine blk_far ?_ NB199_223.out _; (with_reducible repeat (first | refine blk_drewN ?_ _ | refine blk_drew ?_ | refine blk_alloc ?_ _)); refine blk_far ?_ NB199_223.out _; (with_reducible repeat (first | refine blk_drewN ?_ _ | refine blk_drew ?_ | refine blk_alloc ?_ _)); exact BK199.out⟩, ⟨by (with_reducible repeat (first | refine blk_drewN ?_ _ | refine blk_drew ?_ | refine blk_alloc ?_ _)); refine blk_far ?_ NB211_223.out _; (with_reducible repeat (first | refine blk_drewN ?_ _ | refine blk_drew ?_ | refine blk_alloc ?_ _)); refine blk_far ?_ NB211_223.out _; (with_reducible repeat (first | refine blk_drewN ?_ _ | refine blk_drew ?_ | refine blk_alloc ?_ _)); refine blk_far ?_ NB211_223.out _; (with_reducible repeat (first | refine blk_drewN ?_ _ | refine blk_drew ?_ | refine blk_alloc ?_ _)); refine blk_far ?_ NB211_223.out _; (with_reducible repeat (first | refine blk_drewN ?_ _ | refine blk_drew ?_ | refine blk_alloc ?_ _)); refine blk_far ?_ NB211_223.out _; (with_reducible repeat (first | refine blk_drewN ?_ _ | refine blk_drew ?_ | refine blk_alloc ?_ _)); refine blk_far ?_ NB211_223.out _; (with_reducible repeat (first | refine blk_drewN ?_ _ | refine blk_drew ?_ | refine blk_alloc ?_ _)); refine blk_far ?_ NB211_223.out _; (with_reducible repeat (first | refine blk_drewN ?_ _ | refine blk_drew ?_ | refine blk_alloc ?_ _)); refine blk_far ?_ NB211_223.out _; (with_reducible repeat (first | refine blk_drewN ?_ _ | refine blk_drew ?_ | refine blk_alloc ?_ _)); exact BK211.out⟩, ⟨by (with_reducible repeat (first | refine blk_drewN ?_ _ | refine blk_drew ?_ | refine blk_alloc ?_ _)); refine blk_put (cs := #[.int .u8 t213, .int .i64 t214, .int .i64 t215, .int .i64 t216, .int .i64 t217, .int .i64 t218, .bool t219, .int .i64 0]) ?_ 7 _ rfl; (with_reducible repeat (first | refine blk_drewN ?_ _ | refine blk_drew ?_ | refine blk_alloc ?_ _)); refine blk_put (cs := #[.int .u8 t213, .int .i64 t214, .int .i64 t215, .int .i64 t216, .int .i64 t217, .int .i64 t218, .bool false, .int .i64 0]) ?_ 6 _ rfl; (with_reducible repeat (first | refine blk_drewN ?_ _ | refine blk_drew ?_ | refine blk_alloc ?_ _)); refine blk_put (cs := #[.int .u8 t213, .int .i64 t214, .int .i64 t215, .int .i64 t216, .int .i64 t217, .int .i64 0, .bool false, .int .i64 0]) ?_ 5 _ rfl; (with_reducible repeat (first | refine blk_drewN ?_ _ | refine blk_drew ?_ | refine blk_alloc ?_ _)); refine blk_put (cs := #[.int .u8 t213, .int .i64 t214, .int .i64 t215, .int .i64 t216, .int .i64 0, .int .i64 0, .bool false, .int .i64 0]) ?_ 4 _ rfl; (with_reducible repeat (first | refine blk_drewN ?_ _ | refine blk_drew ?_ | refine blk_alloc ?_ _)); refine blk_put (cs := #[.int .u8 t213, .int .i64 t214, .int .i64 t215, .int .i64 0, .int .i64 0, .int .i64 0, .bool false, .int .i64 0]) ?_ 3 _ rfl; (with_reducible repeat (first | refine blk_drewN ?_ _ | refine blk_drew ?_ | refine blk_alloc ?_ _)); refine blk_put (cs := #[.int .u8 t213, .int .i64 t214, .int .i64 0, .int .i64 0, .int .i64 0, .int .i64 0, .bool false, .int .i64 0]) ?_ 2 _ rfl; (with_reducible repeat (first | refine blk_drewN ?_ _ | refine blk_drew ?_ | refine blk_alloc ?_ _)); refine blk_put (cs := #[.int .u8 t213, .int .i64 0, .int .i64 0, .int .i64 0, .int .i64 0, .int .i64 0, .bool false, .int .i64 0]) ?_ 1 _ rfl; (with_reducible repeat (first | refine blk_drewN ?_ _ | refine blk_drew ?_ | refine blk_alloc ?_ _)); refine blk_put (cs := #[.int .u8 0, .int .i64 0, .int .i64 0, .int .i64 0, .int .i64 0, .int .i64 0, .bool false, .int .i64 0]) ?_ 0 _ rfl; (with_reducible repeat (first | refine blk_drewN ?_ _ | refine blk_drew ?_ | refine blk_alloc ?_ _)); exact BK223.out⟩, ⟨by repeat (first | (with_reducible first | exact HB.out | apply below_alloc | apply pw_below_drewN | apply below_drew1 | refine below_set ?_ GE199.out | refine below_set ?_ GE211.out | refine below_set ?_ GE223.out) | exact HB.out)⟩⟩
                    · rw [if_neg c30] at H
                      try first | (with_reducible exact absurd H (sundiallaw08_OperandParts.j0_no ..)) | (with_reducible exact absurd H (sundiallaw08_OperandParts.j1_no ..)) | (with_reducible exact absurd H (sundiallaw08_OperandParts.some_no))
                      all_goals
                        have c30b0 : (t198 == t210) = false := beq_eq_false_iff_ne.mpr c30
                        have c30b1 : (t198 != t210) = true := bne_iff_ne.mpr c30
                        have H' := Aside0.mk H
                        clear H
                        have hnb42 := NB199_211.out
                        have hnc42 := NB211_199.out
                        have hnb43 := NB199_223.out
                        have hnc43 := NB223_199.out
                        have hcz44_0 : w18.cell? ⟨gb199, 0, none⟩ = some (.int .u8 t189) := (blk_cell BK199.out 0).trans rfl
                        have hcz44_1 : w18.cell? ⟨gb199, 1, none⟩ = some (.int .i64 t190) := (blk_cell BK199.out 1).trans rfl
                        have hcz44_2 : w18.cell? ⟨gb199, 2, none⟩ = some (.int .i64 t191) := (blk_cell BK199.out 2).trans rfl
                        have hcz44_3 : w18.cell? ⟨gb199, 3, none⟩ = some (.int .i64 t192) := (blk_cell BK199.out 3).trans rfl
                        have hcz44_4 : w18.cell? ⟨gb199, 4, none⟩ = some (.int .i64 t193) := (blk_cell BK199.out 4).trans rfl
                        have hcz44_5 : w18.cell? ⟨gb199, 5, none⟩ = some (.int .i64 t194) := (blk_cell BK199.out 5).trans rfl
                        have hcz44_6 : w18.cell? ⟨gb199, 6, none⟩ = some (.bool t195) := (blk_cell BK199.out 6).trans rfl
                        have hcz44_7 : w18.cell? ⟨gb199, 7, none⟩ = some (.int .i64 t196) := (blk_cell BK199.out 7).trans rfl
                        have hfz44_0 := blk_frozen BK199.out 0
                        have hfz44_1 := blk_frozen BK199.out 1
                        have hfz44_2 := blk_frozen BK199.out 2
                        have hfz44_3 := blk_frozen BK199.out 3
                        have hfz44_4 := blk_frozen BK199.out 4
                        have hfz44_5 := blk_frozen BK199.out 5
                        have hfz44_6 := blk_frozen BK199.out 6
                        have hfz44_7 := blk_frozen BK199.out 7
                        have hnb45 := NB211_223.out
                        have hnc45 := NB223_211.out
                        have hcz46_0 : w18.cell? ⟨gb211, 0, none⟩ = some (.int .u8 t201) := (blk_cell BK211.out 0).trans rfl
                        have hcz46_1 : w18.cell? ⟨gb211, 1, none⟩ = some (.int .i64 t202) := (blk_cell BK211.out 1).trans rfl
                        have hcz46_2 : w18.cell? ⟨gb211, 2, none⟩ = some (.int .i64 t203) := (blk_cell BK211.out 2).trans rfl
                        have hcz46_3 : w18.cell? ⟨gb211, 3, none⟩ = some (.int .i64 t204) := (blk_cell BK211.out 3).trans rfl
                        have hcz46_4 : w18.cell? ⟨gb211, 4, none⟩ = some (.int .i64 t205) := (blk_cell BK211.out 4).trans rfl
                        have hcz46_5 : w18.cell? ⟨gb211, 5, none⟩ = some (.int .i64 t206) := (blk_cell BK211.out 5).trans rfl
                        have hcz46_6 : w18.cell? ⟨gb211, 6, none⟩ = some (.bool t207) := (blk_cell BK211.out 6).trans rfl
                        have hcz46_7 : w18.cell? ⟨gb211, 7, none⟩ = some (.int .i64 t208) := (blk_cell BK211.out 7).trans rfl
                        have hfz46_0 := blk_frozen BK211.out 0
                        have hfz46_1 := blk_frozen BK211.out 1
                        have hfz46_2 := blk_frozen BK211.out 2
                        have hfz46_3 := blk_frozen BK211.out 3
                        have hfz46_4 := blk_frozen BK211.out 4
                        have hfz46_5 := blk_frozen BK211.out 5
                        have hfz46_6 := blk_frozen BK211.out 6
                        have hfz46_7 := blk_frozen BK211.out 7
                        go_wp2
                        go_meet
                        case rel => exact ⟨_, (true), (by first | rfl | (simp; done) | (simp [*]; done)), H', ⟨by first | omega | exact Nat.le_refl _⟩, ⟨by (with_reducible repeat (first | refine blk_drewN ?_ _ | refine blk_drew ?_ | refine blk_alloc ?_ _)); refine blk_far ?_ NB199_223.out _; (with_reducible repeat (first | refine blk_drewN ?_ _ | refine blk_drew ?_ | refine blk_alloc ?_ _)); refine blk_far ?_ NB199_223.out _; (with_reducible repeat (first | refine blk_drewN ?_ _ | refine blk_drew ?_ | refine blk_alloc ?_ _)); refine blk_far ?_ NB199_223.out _; (with_reducible repeat (first | refine blk_drewN ?_ _ | refine blk_drew ?_ | refine blk_alloc ?_ _)); refine blk_far ?_ NB199_223.out _; (with_reducible repeat (first | refine blk_drewN ?_ _ | refine blk_drew ?_ | refine blk_alloc ?_ _)); refine blk_far ?_ NB199_223.out _; (with_reducible repeat (first | refine blk_drewN ?_ _ | refine blk_drew ?_ | refine blk_alloc ?_ _)); refine blk_far ?_ NB199_223.out _; (with_reducible repeat (first | refine blk_drewN ?_ _ | refine blk_drew ?_ | refine blk_alloc ?_ _)); refine blk_far ?_ NB199_223.out _; (with_reducible repeat (first | refine blk_drewN ?_ _ | refine blk_drew ?_ | refine blk_alloc ?_ _)); refine blk_far ?_ NB199_223.out _; (with_reducible repeat (first | refine blk_drewN ?_ _ | refine blk_drew ?_ | refine blk_alloc ?_ _)); exact BK199.out⟩, ⟨by (with_reducible repeat (first | refine blk_drewN ?_ _ | refine blk_drew ?_ | refine blk_alloc ?_ _)); refine blk_far ?_ NB211_223.out _; (with_reducible repeat (first | refine blk_drewN ?_ _ | refine blk_drew ?_ | refine blk_alloc ?_ _)); refine blk_far ?_ NB211_223.out _; (with_reducible repeat (first | refine blk_drewN ?_ _ | refine blk_drew ?_ | refine blk_alloc ?_ _)); refine blk_far ?_ NB211_223.out _; (with_reducible repeat (first | refine blk_drewN ?_ _ | refine blk_drew ?_ | refine blk_alloc ?_ _)); refine blk_far ?_ NB211_223.out _; (with_reducible repeat (first | refine blk_drewN ?_ _ | refine blk_drew ?_ | refine blk_alloc ?_ _)); refine blk_far ?_ NB211_223.out _; (with_reducible repeat (first | refine blk_drewN ?_ _ | refine blk_drew ?_ | refine blk_alloc ?_ _)); refine blk_far ?_ NB211_223.out _; (with_reducible repeat (first | refine blk_drewN ?_ _ | refine blk_drew ?_ | refine blk_alloc ?_ _)); refine blk_far ?_ NB211_223.out _; (with_reducible repeat (first | refine blk_drewN ?_ _ | refine blk_drew ?_ | refine blk_alloc ?_ _)); refine blk_far ?_ NB211_223.out _; (with_reducible repeat (first | refine blk_drewN ?_ _ | refine blk_drew ?_ | refine blk_alloc ?_ _)); exact BK211.out⟩, ⟨by (with_reducible repeat (first | refine blk_drewN ?_ _ | refine blk_drew ?_ | refine blk_alloc ?_ _)); refine blk_put (cs := #[.int .u8 t213, .int .i64 t214, .int .i64 t215, .int .i64 t216, .int .i64 t217, .int .i64 t218, .bool t219, .int .i64 0]) ?_ 7 _ rfl; (with_reducible repeat (first | refine blk_drewN ?_ _ | refine blk_drew ?_ | refine blk_alloc ?_ _)); refine blk_put (cs := #[.int .u8 t213, .int .i64 t214, .int .i64 t215, .int .i64 t216, .int .i64 t217, .int .i64 t218, .bool false, .int .i64 0]) ?_ 6 _ rfl; (with_reducible repeat (first | refine blk_drewN ?_ _ | refine blk_drew ?_ | refine blk_alloc ?_ _)); refine blk_put (cs := #[.int .u8 t213, .int .i64 t214, .int .i64 t215, .int .i64 t216, .int .i64 t217, .int .i64 0, .bool false, .int .i64 0]) ?_ 5 _ rfl; (with_reducible repeat (first | refine blk_drewN ?_ _ | refine blk_drew ?_ | refine blk_alloc ?_ _)); refine blk_put (cs := #[.int .u8 t213, .int .i64 t214, .int .i64 t215, .int .i64 t216, .int .i64 0, .int .i64 0, .bool false, .int .i64 0]) ?_ 4 _ rfl; (with_reducible repeat (first | refine blk_drewN ?_ _ | refine blk_drew ?_ | refine blk_alloc ?_ _)); refine blk_put (cs := #[.int .u8 t213, .int .i64 t214, .int .i64 t215, .int .i64 0, .int .i64 0, .int .i64 0, .bool false, .int .i64 0]) ?_ 3 _ rfl; (with_reducible repeat (first | refine blk_drewN ?_ _ | refine blk_drew ?_ | refine blk_alloc ?_ _)); refine blk_put (cs := #[.int .u8 t213, .int .i64 t214, .int .i64 0, .int .i64 0, .int .i64 0, .int .i64 0, .bool false, .int .i64 0]) ?_ 2 _ rfl; (with_reducible repeat (first | refine blk_drewN ?_ _ | refine blk_drew ?_ | refine blk_alloc ?_ _)); refine blk_put (cs := #[.int .u8 t213, .int .i64 0, .int .i64 0, .int .i64 0, .int .i64 0, .int .i64 0, .bool false, .int .i64 0]) ?_ 1 _ rfl; (with_reducible repeat (first | refine blk_drewN ?_ _ | refine blk_drew ?_ | refine blk_alloc ?_ _)); refine blk_put (cs := #[.int .u8 0, .int .i64 0, .int .i64 0, .int .i64 0, .int .i64 0, .int .i64 0, .bool false, .int .i64 0]) ?_ 0 _ rfl; (with_reducible repeat (first | refine blk_drewN ?_ _ | refine blk_drew ?_ | refine blk_alloc ?_ _)); exact BK223.out⟩, ⟨by repeat (first | (with_reducible first | exact HB.out | apply below_alloc | apply pw_below_drewN | apply below_drew1 | refine below_set ?_ GE199.out | refine below_set ?_ GE211.out | refine below_set ?_ GE223.out) | exact HB.out)⟩⟩
                · rw [if_neg c29] at H
                  try first | (with_reducible exact absurd H (sundiallaw08_OperandParts.j0_no ..)) | (with_reducible exact absurd H (sundiallaw08_OperandParts.j1_no ..)) | (with_reducible exact absurd H (sundiallaw08_OperandParts.some_no))
                  all_goals
                    have c29b0 : (t197 == t209) = false := beq_eq_false_iff_ne.mpr c29
                    have c29b1 : (t197 != t209) = true := bne_iff_ne.mpr c29
                    have H' := Aside0.mk H
                    clear H
                    have hnb47 := NB199_211.out
                    have hnc47 := NB211_199.out
                    have hnb48 := NB199_223.out
                    have hnc48 := NB223_199.out
                    have hcz49_0 : w18.cell? ⟨gb199, 0, none⟩ = some (.int .u8 t189) := (blk_cell BK199.out 0).trans rfl
                    have hcz49_1 : w18.cell? ⟨gb199, 1, none⟩ = some (.int .i64 t190) := (blk_cell BK199.out 1).trans rfl
                    have hcz49_2 : w18.cell? ⟨gb199, 2, none⟩ = some (.int .i64 t191) := (blk_cell BK199.out 2).trans rfl
                    have hcz49_3 : w18.cell? ⟨gb199, 3, none⟩ = some (.int .i64 t192) := (blk_cell BK199.out 3).trans rfl
                    have hcz49_4 : w18.cell? ⟨gb199, 4, none⟩ = some (.int .i64 t193) := (blk_cell BK199.out 4).trans rfl
                    have hcz49_5 : w18.cell? ⟨gb199, 5, none⟩ = some (.int .i64 t194) := (blk_cell BK199.out 5).trans rfl
                    have hcz49_6 : w18.cell? ⟨gb199, 6, none⟩ = some (.bool t195) := (blk_cell BK199.out 6).trans rfl
                    have hcz49_7 : w18.cell? ⟨gb199, 7, none⟩ = some (.int .i64 t196) := (blk_cell BK199.out 7).trans rfl
                    have hfz49_0 := blk_frozen BK199.out 0
                    have hfz49_1 := blk_frozen BK199.out 1
                    have hfz49_2 := blk_frozen BK199.out 2
                    have hfz49_3 := blk_frozen BK199.out 3
                    have hfz49_4 := blk_frozen BK199.out 4
                    have hfz49_5 := blk_frozen BK199.out 5
                    have hfz49_6 := blk_frozen BK199.out 6
                    have hfz49_7 := blk_frozen BK199.out 7
                    have hnb50 := NB211_223.out
                    have hnc50 := NB223_211.out
                    have hcz51_0 : w18.cell? ⟨gb211, 0, none⟩ = some (.int .u8 t201) := (blk_cell BK211.out 0).trans rfl
                    have hcz51_1 : w18.cell? ⟨gb211, 1, none⟩ = some (.int .i64 t202) := (blk_cell BK211.out 1).trans rfl
                    have hcz51_2 : w18.cell? ⟨gb211, 2, none⟩ = some (.int .i64 t203) := (blk_cell BK211.out 2).trans rfl
                    have hcz51_3 : w18.cell? ⟨gb211, 3, none⟩ = some (.int .i64 t204) := (blk_cell BK211.out 3).trans rfl
                    have hcz51_4 : w18.cell? ⟨gb211, 4, none⟩ = some (.int .i64 t205) := (blk_cell BK211.out 4).trans rfl
                    have hcz51_5 : w18.cell? ⟨gb211, 5, none⟩ = some (.int .i64 t206) := (blk_cell BK211.out 5).trans rfl
                    have hcz51_6 : w18.cell? ⟨gb211, 6, none⟩ = some (.bool t207) := (blk_cell BK211.out 6).trans rfl
                    have hcz51_7 : w18.cell? ⟨gb211, 7, none⟩ = some (.int .i64 t208) := (blk_cell BK211.out 7).trans rfl
                    have hfz51_0 := blk_frozen BK211.out 0
                    have hfz51_1 := blk_frozen BK211.out 1
                    have hfz51_2 := blk_frozen BK211.out 2
                    have hfz51_3 := blk_frozen BK211.out 3
                    have hfz51_4 := blk_frozen BK211.out 4
                    have hfz51_5 := blk_frozen BK211.out 5
                    have hfz51_6 := blk_frozen BK211.out 6
                    have hfz51_7 := blk_frozen BK211.out 7
                    go_wp2
                    go_meet
                    case rel => exact ⟨_, (true), (by first | rfl | (simp; done) | (simp [*]; done)), H', ⟨by first | omega | exact Nat.le_refl _⟩, ⟨by (with_reducible repeat (first | refine blk_drewN ?_ _ | refine blk_drew ?_ | refine blk_alloc ?_ _)); refine blk_far ?_ NB199_223.out _; (with_reducible repeat (first | refine blk_drewN ?_ _ | refine blk_drew ?_ | refine blk_alloc ?_ _)); refine blk_far ?_ NB199_223.out _; (with_reducible repeat (first | refine blk_drewN ?_ _ | refine blk_drew ?_ | refine blk_alloc ?_ _)); refine blk_far ?_ NB199_223.out _; (with_reducible repeat (first | refine blk_drewN ?_ _ | refine blk_drew ?_ | refine blk_alloc ?_ _)); refine blk_far ?_ NB199_223.out _; (with_reducible repeat (first | refine blk_drewN ?_ _ | refine blk_drew ?_ | refine blk_alloc ?_ _)); refine blk_far ?_ NB199_223.out _; (with_reducible repeat (first | refine blk_drewN ?_ _ | refine blk_drew ?_ | refine blk_alloc ?_ _)); refine blk_far ?_ NB199_223.out _; (with_reducible repeat (first | refine blk_drewN ?_ _ | refine blk_drew ?_ | refine blk_alloc ?_ _)); refine blk_far ?_ NB199_223.out _; (with_reducible repeat (first | refine blk_drewN ?_ _ | refine blk_drew ?_ | refine blk_alloc ?_ _)); refine blk_far ?_ NB199_223.out _; (with_reducible repeat (first | refine blk_drewN ?_ _ | refine blk_drew ?_ | refine blk_alloc ?_ _)); exact BK199.out⟩, ⟨by (with_reducible repeat (first | refine blk_drewN ?_ _ | refine blk_drew ?_ | refine blk_alloc ?_ _)); refine blk_far ?_ NB211_223.out _; (with_reducible repeat (first | refine blk_drewN ?_ _ | refine blk_drew ?_ | refine blk_alloc ?_ _)); refine blk_far ?_ NB211_223.out _; (with_reducible repeat (first | refine blk_drewN ?_ _ | refine blk_drew ?_ | refine blk_alloc ?_ _)); refine blk_far ?_ NB211_223.out _; (with_reducible repeat (first | refine blk_drewN ?_ _ | refine blk_drew ?_ | refine blk_alloc ?_ _)); refine blk_far ?_ NB211_223.out _; (with_reducible repeat (first | refine blk_drewN ?_ _ | refine blk_drew ?_ | refine blk_alloc ?_ _)); refine blk_far ?_ NB211_223.out _; (with_reducible repeat (first | refine blk_drewN ?_ _ | refine blk_drew ?_ | refine blk_alloc ?_ _)); refine blk_far ?_ NB211_223.out _; (with_reducible repeat (first | refine blk_drewN ?_ _ | refine blk_drew ?_ | refine blk_alloc ?_ _)); refine blk_far ?_ NB211_223.out _; (with_reducible repeat (first | refine blk_drewN ?_ _ | refine blk_drew ?_ | refine blk_alloc ?_ _)); refine blk_far ?_ NB211_223.out _; (with_reducible repeat (first | refine blk_drewN ?_ _ | refine blk_drew ?_ | refine blk_alloc ?_ _)); exact BK211.out⟩, ⟨by (with_reducible repeat (first | refine blk_drewN ?_ _ | refine blk_drew ?_ | refine blk_alloc ?_ _)); refine blk_put (cs := #[.int .u8 t213, .int .i64 t214, .int .i64 t215, .int .i64 t216, .int .i64 t217, .int .i64 t218, .bool t219, .int .i64 0]) ?_ 7 _ rfl; (with_reducible repeat (first | refine blk_drewN ?_ _ | refine blk_drew ?_ | refine blk_alloc ?_ _)); refine blk_put (cs := #[.int .u8 t213, .int .i64 t214, .int .i64 t215, .int .i64 t216, .int .i64 t217, .int .i64 t218, .bool false, .int .i64 0]) ?_ 6 _ rfl; (with_reducible repeat (first | refine blk_drewN ?_ _ | refine blk_drew ?_ | refine blk_alloc ?_ _)); refine blk_put (cs := #[.int .u8 t213, .int .i64 t214, .int .i64 t215, .int .i64 t216, .int .i64 t217, .int .i64 0, .bool false, .int .i64 0]) ?_ 5 _ rfl; (with_reducible repeat (first | refine blk_drewN ?_ _ | refine blk_drew ?_ | refine blk_alloc ?_ _)); refine blk_put (cs := #[.int .u8 t213, .int .i64 t214, .int .i64 t215, .int .i64 t216, .int .i64 0, .int .i64 0, .bool false, .int .i64 0]) ?_ 4 _ rfl; (with_reducible repeat (first | refine blk_drewN ?_ _ | refine blk_drew ?_ | refine blk_alloc ?_ _)); refine blk_put (cs := #[.int .u8 t213, .int .i64 t214, .int .i64 t215, .int .i64 0, .int .i64 0, .int .i64 0, .bool false, .int .i64 0]) ?_ 3 _ rfl; (with_reducible repeat (first | refine blk_drewN ?_ _ | refine blk_drew ?_ | refine blk_alloc ?_ _)); refine blk_put (cs := #[.int .u8 t213, .int .i64 t214, .int .i64 0, .int .i64 0, .int .i64 0, .int .i64 0, .bool false, .int .i64 0]) ?_ 2 _ rfl; (with_reducible repeat (first | refine blk_drewN ?_ _ | refine blk_drew ?_ | refine blk_alloc ?_ _)); refine blk_put (cs := #[.int .u8 t213, .int .i64 0, .int .i64 0, .int .i64 0, .int .i64 0, .int .i64 0, .bool false, .int .i64 0]) ?_ 1 _ rfl; (with_reducible repeat (first | refine blk_drewN ?_ _ | refine blk_drew ?_ | refine blk_alloc ?_ _)); refine blk_put (cs := #[.int .u8 0, .int .i64 0, .int .i64 0, .int .i64 0, .int .i64 0, .int .i64 0, .bool false, .int .i64 0]) ?_ 0 _ rfl; (with_reducible repeat (first | refine blk_drewN ?_ _ | refine blk_drew ?_ | refine blk_alloc ?_ _)); exact BK223.out⟩, ⟨by repeat (first | (with_reducible first | exact HB.out | apply below_alloc | apply pw_below_drewN | apply below_drew1 | refine below_set ?_ GE199.out | refine below_set ?_ GE211.out | refine below_set ?_ GE223.out) | exact HB.out)⟩⟩
        · rw [if_neg c22] at H
          try first | (with_reducible exact absurd H (sundiallaw08_OperandParts.j0_no ..)) | (with_reducible exact absurd H (sundiallaw08_OperandParts.j1_no ..)) | (with_reducible exact absurd H (sundiallaw08_OperandParts.some_no))
          all_goals
            have c22b0 : (t188 == t200) = false := beq_eq_false_iff_ne.mpr c22
            have c22b1 : (t188 != t200) = true := bne_iff_ne.mpr c22
            (first | rw [c22b0] | (simp only [i64_w, i32_w]; rw [c22b0]) | skip)
            have H' := Aside0.mk H
            clear H
            go_wp2
            go_meet
            case rel => exact ⟨_, (true), (by first | rfl | (simp; done) | (simp [*]; done)), H', ⟨by first | omega | exact Nat.le_refl _⟩, ⟨by (with_reducible repeat (first | refine blk_drewN ?_ _ | refine blk_drew ?_ | refine blk_alloc ?_ _)); refine blk_far ?_ NB199_223.out _; (with_reducible repeat (first | refine blk_drewN ?_ _ | refine blk_drew ?_ | refine blk_alloc ?_ _)); refine blk_far ?_ NB199_223.out _; (with_reducible repeat (first | refine blk_drewN ?_ _ | refine blk_drew ?_ | refine blk_alloc ?_ _)); refine blk_far ?_ NB199_223.out _; (with_reducible repeat (first | refine blk_drewN ?_ _ | refine blk_drew ?_ | refine blk_alloc ?_ _)); refine blk_far ?_ NB199_223.out _; (with_reducible repeat (first | refine blk_drewN ?_ _ | refine blk_drew ?_ | refine blk_alloc ?_ _)); refine blk_far ?_ NB199_223.out _; (with_reducible repeat (first | refine blk_drewN ?_ _ | refine blk_drew ?_ | refine blk_alloc ?_ _)); refine blk_far ?_ NB199_223.out _; (with_reducible repeat (first | refine blk_drewN ?_ _ | refine blk_drew ?_ | refine blk_alloc ?_ _)); refine blk_far ?_ NB199_223.out _; (with_reducible repeat (first | refine blk_drewN ?_ _ | refine blk_drew ?_ | refine blk_alloc ?_ _)); refine blk_far ?_ NB199_223.out _; (with_reducible repeat (first | refine blk_drewN ?_ _ | refine blk_drew ?_ | refine blk_alloc ?_ _)); exact BK199.out⟩, ⟨by (with_reducible repeat (first | refine blk_drewN ?_ _ | refine blk_drew ?_ | refine blk_alloc ?_ _)); refine blk_far ?_ NB211_223.out _; (with_reducible repeat (first | refine blk_drewN ?_ _ | refine blk_drew ?_ | refine blk_alloc ?_ _)); refine blk_far ?_ NB211_223.out _; (with_reducible repeat (first | refine blk_drewN ?_ _ | refine blk_drew ?_ | refine blk_alloc ?_ _)); refine blk_far ?_ NB211_223.out _; (with_reducible repeat (first | refine blk_drewN ?_ _ | refine blk_drew ?_ | refine blk_alloc ?_ _)); refine blk_far ?_ NB211_223.out _; (with_reducible repeat (first | refine blk_drewN ?_ _ | refine blk_drew ?_ | refine blk_alloc ?_ _)); refine blk_far ?_ NB211_223.out _; (with_reducible repeat (first | refine blk_drewN ?_ _ | refine blk_drew ?_ | refine blk_alloc ?_ _)); refine blk_far ?_ NB211_223.out _; (with_reducible repeat (first | refine blk_drewN ?_ _ | refine blk_drew ?_ | refine blk_alloc ?_ _)); refine blk_far ?_ NB211_223.out _; (with_reducible repeat (first | refine blk_drewN ?_ _ | refine blk_drew ?_ | refine blk_alloc ?_ _)); refine blk_far ?_ NB211_223.out _; (with_reducible repeat (first | refine blk_drewN ?_ _ | refine blk_drew ?_ | refine blk_alloc ?_ _)); exact BK211.out⟩, ⟨by (with_reducible repeat (first | refine blk_drewN ?_ _ | refine blk_drew ?_ | refine blk_alloc ?_ _)); refine blk_put (cs := #[.int .u8 t213, .int .i64 t214, .int .i64 t215, .int .i64 t216, .int .i64 t217, .int .i64 t218, .bool t219, .int .i64 0]) ?_ 7 _ rfl; (with_reducible repeat (first | refine blk_drewN ?_ _ | refine blk_drew ?_ | refine blk_alloc ?_ _)); refine blk_put (cs := #[.int .u8 t213, .int .i64 t214, .int .i64 t215, .int .i64 t216, .int .i64 t217, .int .i64 t218, .bool false, .int .i64 0]) ?_ 6 _ rfl; (with_reducible repeat (first | refine blk_drewN ?_ _ | refine blk_drew ?_ | refine blk_alloc ?_ _)); refine blk_put (cs := #[.int .u8 t213, .int .i64 t214, .int .i64 t215, .int .i64 t216, .int .i64 t217, .int .i64 0, .bool false, .int .i64 0]) ?_ 5 _ rfl; (with_reducible repeat (first | refine blk_drewN ?_ _ | refine blk_drew ?_ | refine blk_alloc ?_ _)); refine blk_put (cs := #[.int .u8 t213, .int .i64 t214, .int .i64 t215, .int .i64 t216, .int .i64 0, .int .i64 0, .bool false, .int .i64 0]) ?_ 4 _ rfl; (with_reducible repeat (first | refine blk_drewN ?_ _ | refine blk_drew ?_ | refine blk_alloc ?_ _)); refine blk_put (cs := #[.int .u8 t213, .int .i64 t214, .int .i64 t215, .int .i64 0, .int .i64 0, .int .i64 0, .bool false, .int .i64 0]) ?_ 3 _ rfl; (with_reducible repeat (first | refine blk_drewN ?_ _ | refine blk_drew ?_ | refine blk_alloc ?_ _)); refine blk_put (cs := #[.int .u8 t213, .int .i64 t214, .int .i64 0, .int .i64 0, .int .i64 0, .int .i64 0, .bool false, .int .i64 0]) ?_ 2 _ rfl; (with_reducible repeat (first | refine blk_drewN ?_ _ | refine blk_drew ?_ | refine blk_alloc ?_ _)); refine blk_put (cs := #[.int .u8 t213, .int .i64 0, .int .i64 0, .int .i64 0, .int .i64 0, .int .i64 0, .bool false, .int .i64 0]) ?_ 1 _ rfl; (with_reducible repeat (first | refine blk_drewN ?_ _ | refine blk_drew ?_ | refine blk_alloc ?_ _)); refine blk_put (cs := #[.int .u8 0, .int .i64 0, .int .i64 0, .int .i64 0, .int .i64 0, .int .i64 0, .bool false, .int .i64 0]) ?_ 0 _ rfl; (with_reducible repeat (first | refine blk_drewN ?_ _ | refine blk_drew ?_ | refine blk_alloc ?_ _)); exact BK223.out⟩, ⟨by repeat (first | (with_reducible first | exact HB.out | apply below_alloc | apply pw_below_drewN | apply below_drew1 | refine below_set ?_ GE199.out | refine below_set ?_ GE211.out | refine below_set ?_ GE223.out) | exact HB.out)⟩⟩
      case rest =>
        clear HC9
        try clear c1
        try clear c2
        try clear p2
        try clear c3
        try clear c3b0
        try clear c3b1
        try clear c4
        try clear c5
        try clear c7
        try clear c8
        try clear c11
        try clear c15
        try clear c19
        try clear c20
        try clear c22
        try clear c22b0
        try clear c22b1
        try clear c23
        try clear c23b0
        try clear c24
        try clear c25
        try clear c27
        try clear c29
        try clear c29b0
        try clear c29b1
        try clear c30
        try clear c30b0
        try clear c30b1
        try clear c31
        try clear c31b0
        try clear c31b1
        try clear c32
        try clear c33
        try clear c35
        try clear c37
        try clear c38
        try clear c40
        try clear c42
        try clear c43
        try clear c45
        try clear c47
        try clear c48
        try clear c50
        try clear hcz12_0
        try clear hcz12_1
        try clear hcz12_2
        try clear hcz12_3
        try clear hcz12_4
        try clear hcz12_5
        try clear hcz12_6
        try clear hcz12_7
        try clear hcz16_0
        try clear hcz16_1
        try clear hcz16_2
        try clear hcz16_3
        try clear hcz16_4
        try clear hcz16_5
        try clear hcz16_6
        try clear hcz16_7
        try clear hcz21_0
        try clear hcz21_1
        try clear hcz21_2
        try clear hcz21_3
        try clear hcz21_4
        try clear hcz21_5
        try clear hcz21_6
        try clear hcz21_7
        try clear hcz26_0
        try clear hcz26_1
        try clear hcz26_2
        try clear hcz26_3
        try clear hcz26_4
        try clear hcz26_5
        try clear hcz26_6
        try clear hcz26_7
        try clear hcz28_0
        try clear hcz28_1
        try clear hcz28_2
        try clear hcz28_3
        try clear hcz28_4
        try clear hcz28_5
        try clear hcz28_6
        try clear hcz28_7
        try clear hcz34_0
        try clear hcz34_1
        try clear hcz34_2
        try clear hcz34_3
        try clear hcz34_4
        try clear hcz34_5
        try clear hcz34_6
        try clear hcz34_7
        try clear hcz36_0
        try clear hcz36_1
        try clear hcz36_2
        try clear hcz36_3
        try clear hcz36_4
        try clear hcz36_5
        try clear hcz36_6
        try clear hcz36_7
        try clear hcz39_0
        try clear hcz39_1
        try clear hcz39_2
        try clear hcz39_3
        try clear hcz39_4
        try clear hcz39_5
        try clear hcz39_6
        try clear hcz39_7
        try clear hcz41_0
        try clear hcz41_1
        try clear hcz41_2
        try clear hcz41_3
        try clear hcz41_4
        try clear hcz41_5
        try clear hcz41_6
        try clear hcz41_7
        try clear hcz44_0
        try clear hcz44_1
        try clear hcz44_2
        try clear hcz44_3
        try clear hcz44_4
        try clear hcz44_5
        try clear hcz44_6
        try clear hcz44_7
        try clear hcz46_0
        try clear hcz46_1
        try clear hcz46_2
        try clear hcz46_3
        try clear hcz46_4
        try clear hcz46_5
        try clear hcz46_6
        try clear hcz46_7
        try clear hcz49_0
        try clear hcz49_1
        try clear hcz49_2
        try clear hcz49_3
        try clear hcz49_4
        try clear hcz49_5
        try clear hcz49_6
        try clear hcz49_7
        try clear hcz51_0
        try clear hcz51_1
        try clear hcz51_2
        try clear hcz51_3
        try clear hcz51_4
        try clear hcz51_5
        try clear hcz51_6
        try clear hcz51_7
        try clear hfz12_0
        try clear hfz12_1
        try clear hfz12_2
        try clear hfz12_3
        try clear hfz12_4
        try clear hfz12_5
        try clear hfz12_6
        try clear hfz12_7
        try clear hfz16_0
        try clear hfz16_1
        try clear hfz16_2
        try clear hfz16_3
        try clear hfz16_4
        try clear hfz16_5
        try clear hfz16_6
        try clear hfz16_7
        try clear hfz21_0
        try clear hfz21_1
        try clear hfz21_2
        try clear hfz21_3
        try clear hfz21_4
        try clear hfz21_5
        try clear hfz21_6
        try clear hfz21_7
        try clear hfz26_0
        try clear hfz26_1
        try clear hfz26_2
        try clear hfz26_3
        try clear hfz26_4
        try clear hfz26_5
        try clear hfz26_6
        try clear hfz26_7
        try clear hfz28_0
        try clear hfz28_1
        try clear hfz28_2
        try clear hfz28_3
        try clear hfz28_4
        try clear hfz28_5
        try clear hfz28_6
        try clear hfz28_7
        try clear hfz34_0
        try clear hfz34_1
        try clear hfz34_2
        try clear hfz34_3
        try clear hfz34_4
        try clear hfz34_5
        try clear hfz34_6
        try clear hfz34_7
        try clear hfz36_0
        try clear hfz36_1
        try clear hfz36_2
        try clear hfz36_3
        try clear hfz36_4
        try clear hfz36_5
        try clear hfz36_6
        try clear hfz36_7
        try clear hfz39_0
        try clear hfz39_1
        try clear hfz39_2
        try clear hfz39_3
        try clear hfz39_4
        try clear hfz39_5
        try clear hfz39_6
        try clear hfz39_7
        try clear hfz41_0
        try clear hfz41_1
        try clear hfz41_2
        try clear hfz41_3
        try clear hfz41_4
        try clear hfz41_5
        try clear hfz41_6
        try clear hfz41_7
        try clear hfz44_0
        try clear hfz44_1
        try clear hfz44_2
        try clear hfz44_3
        try clear hfz44_4
        try clear hfz44_5
        try clear hfz44_6
        try clear hfz44_7
        try clear hfz46_0
        try clear hfz46_1
        try clear hfz46_2
        try clear hfz46_3
        try clear hfz46_4
        try clear hfz46_5
        try clear hfz46_6
        try clear hfz46_7
        try clear hfz49_0
        try clear hfz49_1
        try clear hfz49_2
        try clear hfz49_3
        try clear hfz49_4
        try clear hfz49_5
        try clear hfz49_6
        try clear hfz49_7
        try clear hfz51_0
        try clear hfz51_1
        try clear hfz51_2
        try clear hfz51_3
        try clear hfz51_4
        try clear hfz51_5
        try clear hfz51_6
        try clear hfz51_7
        obtain ⟨kq, x74_8, rfl, HA, HJ8, BK199, BK211, BK223, HB⟩ := hcut
        cases kq with
        | zero => exact absurd HA.out (by simp [sundiallaw08_OperandParts.j0])
        | succ kj8 =>
          have H := HA.out
          clear HA
          simp only [sundiallaw08_OperandParts.j0] at H
          by_cases c52 : x74_8 = true
          · subst c52
            have H1 : (some false) = some true := by rw [if_pos rfl] at H; exact H
            clear H
            have H := H1
            clear H1
            try (exact absurd H sundiallaw08_OperandParts.some_no)
            all_goals
              obtain rfl := Option.some.inj H
              go_wp2
              go_ret
              exact ⟨by first | rfl | (simp [errW_none, errW_some] <;> rfl) | (simp [*, errW_none, errW_some] <;> rfl), by repeat (first | (with_reducible first | exact HB.out | apply below_alloc | apply pw_below_drewN | apply below_drew1 | refine below_set ?_ GE199.out | refine below_set ?_ GE211.out | refine below_set ?_ GE223.out) | exact HB.out)⟩
          · replace c52 := Bool.eq_false_iff.mpr c52
            subst c52
            have H1 : (if t198 = 0 then (if t188 = (wrap64 (t212 + (wrap64 (8 * (wrap64 (Go.bits .and .u8 (a1 / 4) 1)))))) then (if t194 = t218 then (if t189 = t213 then (if (t195 != t219) = true then (sundiallaw08_OperandParts.j1 kj8 true t189 t190 t191 t192 t193 t194 t195 t196 t213 t214 t215 t216 t217 t218 t219 t220) else (if t190 = t214 then (if t191 = t215 then (sundiallaw08_OperandParts.j1 kj8 false t189 t190 t191 t192 t193 t194 t195 t196 t213 t214 t215 t216 t217 t218 t219 t220) else (sundiallaw08_OperandParts.j1 kj8 (t191 != (wrap64 (t215 + 8))) t189 t190 t191 t192 t193 t194 t195 t196 t213 t214 t215 t216 t217 t218 t219 t220)) else (if t190 = (wrap64 (t214 + 8)) then (if t191 = t215 then (sundiallaw08_OperandParts.j1 kj8 false t189 t190 t191 t192 t193 t194 t195 t196 t213 t214 t215 t216 t217 t218 t219 t220) else (sundiallaw08_OperandParts.j1 kj8 (t191 != (wrap64 (t215 + 8))) t189 t190 t191 t192 t193 t194 t195 t196 t213 t214 t215 t216 t217 t218 t219 t220)) else (sundiallaw08_OperandParts.j1 kj8 true t189 t190 t191 t192 t193 t194 t195 t196 t213 t214 t215 t216 t217 t218 t219 t220)))) else (sundiallaw08_OperandParts.j1 kj8 true t189 t190 t191 t192 t193 t194 t195 t196 t213 t214 t215 t216 t217 t218 t219 t220)) else (sundiallaw08_OperandParts.j1 kj8 true t189 t190 t191 t192 t193 t194 t195 t196 t213 t214 t215 t216 t217 t218 t219 t220)) else (sundiallaw08_OperandParts.j1 kj8 true t189 t190 t191 t192 t193 t194 t195 t196 t213 t214 t215 t216 t217 t218 t219 t220)) else ((sundiallaw08_wakes.f).bind fun t224 => (some t224))) = some true := by rw [if_neg (show ¬ (false = true) by decide)] at H; exact H
            clear H
            have H := H1
            clear H1
            by_cases c53 : t198 = 0
            · rw [if_pos c53] at H
              try first | (with_reducible exact absurd H (sundiallaw08_OperandParts.j0_no ..)) | (with_reducible exact absurd H (sundiallaw08_OperandParts.j1_no ..)) | (with_reducible exact absurd H (sundiallaw08_OperandParts.some_no))
              all_goals
                have c53b0 : (t198 == 0) = true := beq_iff_eq.mpr c53
                have c53b1 : (t198 != 0) = false := bne_eq_false_iff_eq.mpr c53
                clear c53
                have HC54 := Aside0.mk H
                clear H
                go_upto_region 10 with (fail)
                go_cut [137] (fun v137 wc => ∃ (kq : Nat) (x137_53 : Bool), v137 = .bool x137_53 ∧ Aside0 (sundiallaw08_OperandParts.j1 kq x137_53 t189 t190 t191 t192 t193 t194 t195 t196 t213 t214 t215 t216 t217 t218 t219 t220 = some true) ∧ Aside0 (kq ≤ kj8) ∧ Aside0 (wc.heap[gb199]? = some (.cells #[.int .u8 t189, .int .i64 t190, .int .i64 t191, .int .i64 t192, .int .i64 t193, .int .i64 t194, .bool t195, .int .i64 t196] 23 (0, 0))) ∧ Aside0 (wc.heap[gb211]? = some (.cells #[.int .u8 t201, .int .i64 t202, .int .i64 t203, .int .i64 t204, .int .i64 t205, .int .i64 t206, .bool t207, .int .i64 t208] 23 (0, 0))) ∧ Aside0 (wc.heap[gb223]? = some (.cells #[.int .u8 t213, .int .i64 t214, .int .i64 t215, .int .i64 t216, .int .i64 t217, .int .i64 t218, .bool t219, .int .i64 t220] 23 (0, 0))) ∧ Aside0 (Below w.heap.size w wc))
                case first =>
                  have H := HC54.out
                  clear HC54
                  by_cases c55 : t188 = (wrap64 (t212 + (wrap64 (8 * (wrap64 (Go.bits .and .u8 (a1 / 4) 1))))))
                  · rw [if_pos c55] at H
                    try first | (with_reducible exact absurd H (sundiallaw08_OperandParts.j0_no ..)) | (with_reducible exact absurd H (sundiallaw08_OperandParts.j1_no ..)) | (with_reducible exact absurd H (sundiallaw08_OperandParts.some_no))
                    all_goals
                      have c55b0 : (t188 == (wrap64 (t212 + (wrap64 (8 * (wrap64 (Go.bits .and .u8 (a1 / 4) 1))))))) = true := beq_iff_eq.mpr c55
                      have c55b1 : (t188 != (wrap64 (t212 + (wrap64 (8 * (wrap64 (Go.bits .and .u8 (a1 / 4) 1))))))) = false := bne_eq_false_iff_eq.mpr c55
                      clear c55
                      (first | rw [c55b0] | (simp only [i64_w, i32_w]; rw [c55b0]) | skip)
                      by_cases c56 : t194 = t218
                      · rw [if_pos c56] at H
                        try first | (with_reducible exact absurd H (sundiallaw08_OperandParts.j0_no ..)) | (with_reducible exact absurd H (sundiallaw08_OperandParts.j1_no ..)) | (with_reducible exact absurd H (sundiallaw08_OperandParts.some_no))
                        all_goals
                          have c56b0 : (t194 == t218) = true := beq_iff_eq.mpr c56
                          have c56b1 : (t194 != t218) = false := bne_eq_false_iff_eq.mpr c56
                          clear c56
                          by_cases c57 : t189 = t213
                          · rw [if_pos c57] at H
                            try first | (with_reducible exact absurd H (sundiallaw08_OperandParts.j0_no ..)) | (with_reducible exact absurd H (sundiallaw08_OperandParts.j1_no ..)) | (with_reducible exact absurd H (sundiallaw08_OperandParts.some_no))
                            all_goals
                              have c57b0 : (t189 == t213) = true := beq_iff_eq.mpr c57
                              have c57b1 : (t189 != t213) = false := bne_eq_false_iff_eq.mpr c57
                              clear c57
                              by_cases c58 : (t195 != t219) = true
                              · rw [if_pos c58] at H
                                try first | (with_reducible exact absurd H (sundiallaw08_OperandParts.j0_no ..)) | (with_reducible exact absurd H (sundiallaw08_OperandParts.j1_no ..)) | (with_reducible exact absurd H (sundiallaw08_OperandParts.some_no))
                                all_goals
                                  have c58b0 : (t195 != t219) = true := c58
                                  (try (have c58b1 : decide (t195 = t219) = false := by simpa using c58))
                                  (try (have c58b2 : (t195 == t219) = false := by simpa using c58))
                                  (try (have c58b3 : ¬ (t195 = t219) := by simpa using c58))
                                  clear c58
                                  have H' := Aside0.mk H
                                  clear H
                                  have hnb59 := NB199_211.out
                                  have hnc59 := NB211_199.out
                                  have hnb60 := NB199_223.out
                                  have hnc60 := NB223_199.out
                                  have hcz61_0 : wc.cell? ⟨gb199, 0, none⟩ = some (.int .u8 t189) := (blk_cell BK199.out 0).trans rfl
                                  have hcz61_1 : wc.cell? ⟨gb199, 1, none⟩ = some (.int .i64 t190) := (blk_cell BK199.out 1).trans rfl
                                  have hcz61_2 : wc.cell? ⟨gb199, 2, none⟩ = some (.int .i64 t191) := (blk_cell BK199.out 2).trans rfl
                                  have hcz61_3 : wc.cell? ⟨gb199, 3, none⟩ = some (.int .i64 t192) := (blk_cell BK199.out 3).trans rfl
                                  have hcz61_4 : wc.cell? ⟨gb199, 4, none⟩ = some (.int .i64 t193) := (blk_cell BK199.out 4).trans rfl
                                  have hcz61_5 : wc.cell? ⟨gb199, 5, none⟩ = some (.int .i64 t194) := (blk_cell BK199.out 5).trans rfl
                                  have hcz61_6 : wc.cell? ⟨gb199, 6, none⟩ = some (.bool t195) := (blk_cell BK199.out 6).trans rfl
                                  have hcz61_7 : wc.cell? ⟨gb199, 7, none⟩ = some (.int .i64 t196) := (blk_cell BK199.out 7).trans rfl
                                  have hfz61_0 := blk_frozen BK199.out 0
                                  have hfz61_1 := blk_frozen BK199.out 1
                                  have hfz61_2 := blk_frozen BK199.out 2
                                  have hfz61_3 := blk_frozen BK199.out 3
                                  have hfz61_4 := blk_frozen BK199.out 4
                                  have hfz61_5 := blk_frozen BK199.out 5
                                  have hfz61_6 := blk_frozen BK199.out 6
                                  have hfz61_7 := blk_frozen BK199.out 7
                                  have hnb62 := NB223_211.out
                                  have hnc62 := NB211_223.out
                                  have hcz63_0 : wc.cell? ⟨gb223, 0, none⟩ = some (.int .u8 t213) := (blk_cell BK223.out 0).trans rfl
                                  have hcz63_1 : wc.cell? ⟨gb223, 1, none⟩ = some (.int .i64 t214) := (blk_cell BK223.out 1).trans rfl
                                  have hcz63_2 : wc.cell? ⟨gb223, 2, none⟩ = some (.int .i64 t215) := (blk_cell BK223.out 2).trans rfl
                                  have hcz63_3 : wc.cell? ⟨gb223, 3, none⟩ = some (.int .i64 t216) := (blk_cell BK223.out 3).trans rfl
                                  have hcz63_4 : wc.cell? ⟨gb223, 4, none⟩ = some (.int .i64 t217) := (blk_cell BK223.out 4).trans rfl
                                  have hcz63_5 : wc.cell? ⟨gb223, 5, none⟩ = some (.int .i64 t218) := (blk_cell BK223.out 5).trans rfl
                                  have hcz63_6 : wc.cell? ⟨gb223, 6, none⟩ = some (.bool t219) := (blk_cell BK223.out 6).trans rfl
                                  have hcz63_7 : wc.cell? ⟨gb223, 7, none⟩ = some (.int .i64 t220) := (blk_cell BK223.out 7).trans rfl
                                  have hfz63_0 := blk_frozen BK223.out 0
                                  have hfz63_1 := blk_frozen BK223.out 1
                                  have hfz63_2 := blk_frozen BK223.out 2
                                  have hfz63_3 := blk_frozen BK223.out 3
                                  have hfz63_4 := blk_frozen BK223.out 4
                                  have hfz63_5 := blk_frozen BK223.out 5
                                  have hfz63_6 := blk_frozen BK223.out 6
                                  have hfz63_7 := blk_frozen BK223.out 7
                                  go_wp2
                                  go_meet
                                  case rel => exact ⟨_, (true), (by first | rfl | (simp; done) | (simp [*]; done)), H', ⟨by have := HJ8.out; first | omega | exact Nat.le_refl _⟩, ⟨by (with_reducible repeat (first | refine blk_drewN ?_ _ | refine blk_drew ?_ | refine blk_alloc ?_ _)); exact BK199.out⟩, ⟨by (with_reducible repeat (first | refine blk_drewN ?_ _ | refine blk_drew ?_ | refine blk_alloc ?_ _)); exact BK211.out⟩, ⟨by (with_reducible repeat (first | refine blk_drewN ?_ _ | refine blk_drew ?_ | refine blk_alloc ?_ _)); exact BK223.out⟩, ⟨by repeat (first | (with_reducible first | exact HB.out | apply below_alloc | apply pw_below_drewN | apply below_drew1 | refine below_set ?_ GE199.out | refine below_set ?_ GE211.out | refine below_set ?_ GE223.out) | exact HB.out)⟩⟩
                              · rw [if_neg c58] at H
                                try first | (with_reducible exact absurd H (sundiallaw08_OperandParts.j0_no ..)) | (with_reducible exact absurd H (sundiallaw08_OperandParts.j1_no ..)) | (with_reducible exact absurd H (sundiallaw08_OperandParts.some_no))
                                all_goals
                                  have c58b0 : (t195 != t219) = false := by simpa using c58
                                  (try (have c58b1 : decide (t195 = t219) = true := by simpa using c58))
                                  (try (have c58b2 : (t195 == t219) = true := by simpa using c58))
                                  clear c58
                                  by_cases c64 : t190 = t214
                                  · rw [if_pos c64] at H
                                    try first | (with_reducible exact absurd H (sundiallaw08_OperandParts.j0_no ..)) | (with_reducible exact absurd H (sundiallaw08_OperandParts.j1_no ..)) | (with_reducible exact absurd H (sundiallaw08_OperandParts.some_no))
                                    all_goals
                                      have c64b0 : (t190 == t214) = true := beq_iff_eq.mpr c64
                                      have c64b1 : (t190 != t214) = false := bne_eq_false_iff_eq.mpr c64
                                      clear c64
                                      by_cases c65 : t191 = t215
                                      · rw [if_pos c65] at H
                                        try first | (with_reducible exact absurd H (sundiallaw08_OperandParts.j0_no ..)) | (with_reducible exact absurd H (sundiallaw08_OperandParts.j1_no ..)) | (with_reducible exact absurd H (sundiallaw08_OperandParts.some_no))
                                        all_goals
                                          have c65b0 : (t191 == t215) = true := beq_iff_eq.mpr c65
                                          have c65b1 : (t191 != t215) = false := bne_eq_false_iff_eq.mpr c65
                                          clear c65
                                          have H' := Aside0.mk H
                                          clear H
                                          have hnb66 := NB199_211.out
                                          have hnc66 := NB211_199.out
                                          have hnb67 := NB199_223.out
                                          have hnc67 := NB223_199.out
                                          have hcz68_0 : wc.cell? ⟨gb199, 0, none⟩ = some (.int .u8 t189) := (blk_cell BK199.out 0).trans rfl
                                          have hcz68_1 : wc.cell? ⟨gb199, 1, none⟩ = some (.int .i64 t190) := (blk_cell BK199.out 1).trans rfl
                                          have hcz68_2 : wc.cell? ⟨gb199, 2, none⟩ = some (.int .i64 t191) := (blk_cell BK199.out 2).trans rfl
                                          have hcz68_3 : wc.cell? ⟨gb199, 3, none⟩ = some (.int .i64 t192) := (blk_cell BK199.out 3).trans rfl
                                          have hcz68_4 : wc.cell? ⟨gb199, 4, none⟩ = some (.int .i64 t193) := (blk_cell BK199.out 4).trans rfl
                                          have hcz68_5 : wc.cell? ⟨gb199, 5, none⟩ = some (.int .i64 t194) := (blk_cell BK199.out 5).trans rfl
                                          have hcz68_6 : wc.cell? ⟨gb199, 6, none⟩ = some (.bool t195) := (blk_cell BK199.out 6).trans rfl
                                          have hcz68_7 : wc.cell? ⟨gb199, 7, none⟩ = some (.int .i64 t196) := (blk_cell BK199.out 7).trans rfl
                                          have hfz68_0 := blk_frozen BK199.out 0
                                          have hfz68_1 := blk_frozen BK199.out 1
                                          have hfz68_2 := blk_frozen BK199.out 2
                                          have hfz68_3 := blk_frozen BK199.out 3
                                          have hfz68_4 := blk_frozen BK199.out 4
                                          have hfz68_5 := blk_frozen BK199.out 5
                                          have hfz68_6 := blk_frozen BK199.out 6
                                          have hfz68_7 := blk_frozen BK199.out 7
                                          have hnb69 := NB223_211.out
                                          have hnc69 := NB211_223.out
                                          have hcz70_0 : wc.cell? ⟨gb223, 0, none⟩ = some (.int .u8 t213) := (blk_cell BK223.out 0).trans rfl
                                          have hcz70_1 : wc.cell? ⟨gb223, 1, none⟩ = some (.int .i64 t214) := (blk_cell BK223.out 1).trans rfl
                                          have hcz70_2 : wc.cell? ⟨gb223, 2, none⟩ = some (.int .i64 t215) := (blk_cell BK223.out 2).trans rfl
                                          have hcz70_3 : wc.cell? ⟨gb223, 3, none⟩ = some (.int .i64 t216) := (blk_cell BK223.out 3).trans rfl
                                          have hcz70_4 : wc.cell? ⟨gb223, 4, none⟩ = some (.int .i64 t217) := (blk_cell BK223.out 4).trans rfl
                                          have hcz70_5 : wc.cell? ⟨gb223, 5, none⟩ = some (.int .i64 t218) := (blk_cell BK223.out 5).trans rfl
                                          have hcz70_6 : wc.cell? ⟨gb223, 6, none⟩ = some (.bool t219) := (blk_cell BK223.out 6).trans rfl
                                          have hcz70_7 : wc.cell? ⟨gb223, 7, none⟩ = some (.int .i64 t220) := (blk_cell BK223.out 7).trans rfl
                                          have hfz70_0 := blk_frozen BK223.out 0
                                          have hfz70_1 := blk_frozen BK223.out 1
                                          have hfz70_2 := blk_frozen BK223.out 2
                                          have hfz70_3 := blk_frozen BK223.out 3
                                          have hfz70_4 := blk_frozen BK223.out 4
                                          have hfz70_5 := blk_frozen BK223.out 5
                                          have hfz70_6 := blk_frozen BK223.out 6
                                          have hfz70_7 := blk_frozen BK223.out 7
                                          go_wp2
                                          go_meet
                                          case rel => exact ⟨_, (false), (by first | rfl | (simp; done) | (simp [*]; done)), H', ⟨by have := HJ8.out; first | omega | exact Nat.le_refl _⟩, ⟨by (with_reducible repeat (first | refine blk_drewN ?_ _ | refine blk_drew ?_ | refine blk_alloc ?_ _)); exact BK199.out⟩, ⟨by (with_reducible repeat (first | refine blk_drewN ?_ _ | refine blk_drew ?_ | refine blk_alloc ?_ _)); exact BK211.out⟩, ⟨by (with_reducible repeat (first | refine blk_drewN ?_ _ | refine blk_drew ?_ | refine blk_alloc ?_ _)); exact BK223.out⟩, ⟨by repeat (first | (with_reducible first | exact HB.out | apply below_alloc | apply pw_below_drewN | apply below_drew1 | refine below_set ?_ GE199.out | refine below_set ?_ GE211.out | refine below_set ?_ GE223.out) | exact HB.out)⟩⟩
                                      · rw [if_neg c65] at H
                                        try first | (with_reducible exact absurd H (sundiallaw08_OperandParts.j0_no ..)) | (with_reducible exact absurd H (sundiallaw08_OperandParts.j1_no ..)) | (with_reducible exact absurd H (sundiallaw08_OperandParts.some_no))
                                        all_goals
                                          have c65b0 : (t191 == t215) = false := beq_eq_false_iff_ne.mpr c65
                                          have c65b1 : (t191 != t215) = true := bne_iff_ne.mpr c65
                                          have H' := Aside0.mk H
                                          clear H
                                          have hnb71 := NB199_211.out
                                          have hnc71 := NB211_199.out
                                          have hnb72 := NB199_223.out
                                          have hnc72 := NB223_199.out
                                          have hcz73_0 : wc.cell? ⟨gb199, 0, none⟩ = some (.int .u8 t189) := (blk_cell BK199.out 0).trans rfl
                                          have hcz73_1 : wc.cell? ⟨gb199, 1, none⟩ = some (.int .i64 t190) := (blk_cell BK199.out 1).trans rfl
                                          have hcz73_2 : wc.cell? ⟨gb199, 2, none⟩ = some (.int .i64 t191) := (blk_cell BK199.out 2).trans rfl
                                          have hcz73_3 : wc.cell? ⟨gb199, 3, none⟩ = some (.int .i64 t192) := (blk_cell BK199.out 3).trans rfl
                                          have hcz73_4 : wc.cell? ⟨gb199, 4, none⟩ = some (.int .i64 t193) := (blk_cell BK199.out 4).trans rfl
                                          have hcz73_5 : wc.cell? ⟨gb199, 5, none⟩ = some (.int .i64 t194) := (blk_cell BK199.out 5).trans rfl
                                          have hcz73_6 : wc.cell? ⟨gb199, 6, none⟩ = some (.bool t195) := (blk_cell BK199.out 6).trans rfl
                                          have hcz73_7 : wc.cell? ⟨gb199, 7, none⟩ = some (.int .i64 t196) := (blk_cell BK199.out 7).trans rfl
                                          have hfz73_0 := blk_frozen BK199.out 0
                                          have hfz73_1 := blk_frozen BK199.out 1
                                          have hfz73_2 := blk_frozen BK199.out 2
                                          have hfz73_3 := blk_frozen BK199.out 3
                                          have hfz73_4 := blk_frozen BK199.out 4
                                          have hfz73_5 := blk_frozen BK199.out 5
                                          have hfz73_6 := blk_frozen BK199.out 6
                                          have hfz73_7 := blk_frozen BK199.out 7
                                          have hnb74 := NB223_211.out
                                          have hnc74 := NB211_223.out
                                          have hcz75_0 : wc.cell? ⟨gb223, 0, none⟩ = some (.int .u8 t213) := (blk_cell BK223.out 0).trans rfl
                                          have hcz75_1 : wc.cell? ⟨gb223, 1, none⟩ = some (.int .i64 t214) := (blk_cell BK223.out 1).trans rfl
                                          have hcz75_2 : wc.cell? ⟨gb223, 2, none⟩ = some (.int .i64 t215) := (blk_cell BK223.out 2).trans rfl
                                          have hcz75_3 : wc.cell? ⟨gb223, 3, none⟩ = some (.int .i64 t216) := (blk_cell BK223.out 3).trans rfl
                                          have hcz75_4 : wc.cell? ⟨gb223, 4, none⟩ = some (.int .i64 t217) := (blk_cell BK223.out 4).trans rfl
                                          have hcz75_5 : wc.cell? ⟨gb223, 5, none⟩ = some (.int .i64 t218) := (blk_cell BK223.out 5).trans rfl
                                          have hcz75_6 : wc.cell? ⟨gb223, 6, none⟩ = some (.bool t219) := (blk_cell BK223.out 6).trans rfl
                                          have hcz75_7 : wc.cell? ⟨gb223, 7, none⟩ = some (.int .i64 t220) := (blk_cell BK223.out 7).trans rfl
                                          have hfz75_0 := blk_frozen BK223.out 0
                                          have hfz75_1 := blk_frozen BK223.out 1
                                          have hfz75_2 := blk_frozen BK223.out 2
                                          have hfz75_3 := blk_frozen BK223.out 3
                                          have hfz75_4 := blk_frozen BK223.out 4
                                          have hfz75_5 := blk_frozen BK223.out 5
                                          have hfz75_6 := blk_frozen BK223.out 6
                                          have hfz75_7 := blk_frozen BK223.out 7
                                          go_wp2
                                          go_meet
                                          case rel => exact ⟨_, ((t191 != (wrap64 (t215 + 8)))), (by first | rfl | (simp; done) | (simp [*]; done)), H', ⟨by have := HJ8.out; first | omega | exact Nat.le_refl _⟩, ⟨by (with_reducible repeat (first | refine blk_drewN ?_ _ | refine blk_drew ?_ | refine blk_alloc ?_ _)); exact BK199.out⟩, ⟨by (with_reducible repeat (first | refine blk_drewN ?_ _ | refine blk_drew ?_ | refine blk_alloc ?_ _)); exact BK211.out⟩, ⟨by (with_reducible repeat (first | refine blk_drewN ?_ _ | refine blk_drew ?_ | refine blk_alloc ?_ _)); exact BK223.out⟩, ⟨by repeat (first | (with_reducible first | exact HB.out | apply below_alloc | apply pw_below_drewN | apply below_drew1 | refine below_set ?_ GE199.out | refine below_set ?_ GE211.out | refine below_set ?_ GE223.out) | exact HB.out)⟩⟩
                                  · rw [if_neg c64] at H
                                    try first | (with_reducible exact absurd H (sundiallaw08_OperandParts.j0_no ..)) | (with_reducible exact absurd H (sundiallaw08_OperandParts.j1_no ..)) | (with_reducible exact absurd H (sundiallaw08_OperandParts.some_no))
                                    all_goals
                                      have c64b0 : (t190 == t214) = false := beq_eq_false_iff_ne.mpr c64
                                      have c64b1 : (t190 != t214) = true := bne_iff_ne.mpr c64
                                      by_cases c76 : t190 = (wrap64 (t214 + 8))
                                      · rw [if_pos c76] at H
                                        try first | (with_reducible exact absurd H (sundiallaw08_OperandParts.j0_no ..)) | (with_reducible exact absurd H (sundiallaw08_OperandParts.j1_no ..)) | (with_reducible exact absurd H (sundiallaw08_OperandParts.some_no))
                                        all_goals
                                          have c76b0 : (t190 == (wrap64 (t214 + 8))) = true := beq_iff_eq.mpr c76
                                          have c76b1 : (t190 != (wrap64 (t214 + 8))) = false := bne_eq_false_iff_eq.mpr c76
                                          clear c76
                                          by_cases c77 : t191 = t215
                                          · rw [if_pos c77] at H
                                            try first | (with_reducible exact absurd H (sundiallaw08_OperandParts.j0_no ..)) | (with_reducible exact absurd H (sundiallaw08_OperandParts.j1_no ..)) | (with_reducible exact absurd H (sundiallaw08_OperandParts.some_no))
                                            all_goals
                                              have c77b0 : (t191 == t215) = true := beq_iff_eq.mpr c77
                                              have c77b1 : (t191 != t215) = false := bne_eq_false_iff_eq.mpr c77
                                              clear c77
                                              have H' := Aside0.mk H
                                              clear H
                                              have hnb78 := NB199_211.out
                                              have hnc78 := NB211_199.out
                                              have hnb79 := NB199_223.out
                                              have hnc79 := NB223_199.out
                                              have hcz80_0 : wc.cell? ⟨gb199, 0, none⟩ = some (.int .u8 t189) := (blk_cell BK199.out 0).trans rfl
                                              have hcz80_1 : wc.cell? ⟨gb199, 1, none⟩ = some (.int .i64 t190) := (blk_cell BK199.out 1).trans rfl
                                              have hcz80_2 : wc.cell? ⟨gb199, 2, none⟩ = some (.int .i64 t191) := (blk_cell BK199.out 2).trans rfl
                                              have hcz80_3 : wc.cell? ⟨gb199, 3, none⟩ = some (.int .i64 t192) := (blk_cell BK199.out 3).trans rfl
                                              have hcz80_4 : wc.cell? ⟨gb199, 4, none⟩ = some (.int .i64 t193) := (blk_cell BK199.out 4).trans rfl
                                              have hcz80_5 : wc.cell? ⟨gb199, 5, none⟩ = some (.int .i64 t194) := (blk_cell BK199.out 5).trans rfl
                                              have hcz80_6 : wc.cell? ⟨gb199, 6, none⟩ = some (.bool t195) := (blk_cell BK199.out 6).trans rfl
                                              have hcz80_7 : wc.cell? ⟨gb199, 7, none⟩ = some (.int .i64 t196) := (blk_cell BK199.out 7).trans rfl
                                              have hfz80_0 := blk_frozen BK199.out 0
                                              have hfz80_1 := blk_frozen BK199.out 1
                                              have hfz80_2 := blk_frozen BK199.out 2
                                              have hfz80_3 := blk_frozen BK199.out 3
                                              have hfz80_4 := blk_frozen BK199.out 4
                                              have hfz80_5 := blk_frozen BK199.out 5
                                              have hfz80_6 := blk_frozen BK199.out 6
                                              have hfz80_7 := blk_frozen BK199.out 7
                                              have hnb81 := NB223_211.out
                                              have hnc81 := NB211_223.out
                                              have hcz82_0 : wc.cell? ⟨gb223, 0, none⟩ = some (.int .u8 t213) := (blk_cell BK223.out 0).trans rfl
                                              have hcz82_1 : wc.cell? ⟨gb223, 1, none⟩ = some (.int .i64 t214) := (blk_cell BK223.out 1).trans rfl
                                              have hcz82_2 : wc.cell? ⟨gb223, 2, none⟩ = some (.int .i64 t215) := (blk_cell BK223.out 2).trans rfl
                                              have hcz82_3 : wc.cell? ⟨gb223, 3, none⟩ = some (.int .i64 t216) := (blk_cell BK223.out 3).trans rfl
                                              have hcz82_4 : wc.cell? ⟨gb223, 4, none⟩ = some (.int .i64 t217) := (blk_cell BK223.out 4).trans rfl
                                              have hcz82_5 : wc.cell? ⟨gb223, 5, none⟩ = some (.int .i64 t218) := (blk_cell BK223.out 5).trans rfl
                                              have hcz82_6 : wc.cell? ⟨gb223, 6, none⟩ = some (.bool t219) := (blk_cell BK223.out 6).trans rfl
                                              have hcz82_7 : wc.cell? ⟨gb223, 7, none⟩ = some (.int .i64 t220) := (blk_cell BK223.out 7).trans rfl
                                              have hfz82_0 := blk_frozen BK223.out 0
                                              have hfz82_1 := blk_frozen BK223.out 1
                                              have hfz82_2 := blk_frozen BK223.out 2
                                              have hfz82_3 := blk_frozen BK223.out 3
                                              have hfz82_4 := blk_frozen BK223.out 4
                                              have hfz82_5 := blk_frozen BK223.out 5
                                              have hfz82_6 := blk_frozen BK223.out 6
                                              have hfz82_7 := blk_frozen BK223.out 7
                                              go_wp2
                                              go_meet
                                              case rel => exact ⟨_, (false), (by first | rfl | (simp; done) | (simp [*]; done)), H', ⟨by have := HJ8.out; first | omega | exact Nat.le_refl _⟩, ⟨by (with_reducible repeat (first | refine blk_drewN ?_ _ | refine blk_drew ?_ | refine blk_alloc ?_ _)); exact BK199.out⟩, ⟨by (with_reducible repeat (first | refine blk_drewN ?_ _ | refine blk_drew ?_ | refine blk_alloc ?_ _)); exact BK211.out⟩, ⟨by (with_reducible repeat (first | refine blk_drewN ?_ _ | refine blk_drew ?_ | refine blk_alloc ?_ _)); exact BK223.out⟩, ⟨by repeat (first | (with_reducible first | exact HB.out | apply below_alloc | apply pw_below_drewN | apply below_drew1 | refine below_set ?_ GE199.out | refine below_set ?_ GE211.out | refine below_set ?_ GE223.out) | exact HB.out)⟩⟩
                                          · rw [if_neg c77] at H
                                            try first | (with_reducible exact absurd H (sundiallaw08_OperandParts.j0_no ..)) | (with_reducible exact absurd H (sundiallaw08_OperandParts.j1_no ..)) | (with_reducible exact absurd H (sundiallaw08_OperandParts.some_no))
                                            all_goals
                                              have c77b0 : (t191 == t215) = false := beq_eq_false_iff_ne.mpr c77
                                              have c77b1 : (t191 != t215) = true := bne_iff_ne.mpr c77
                                              have H' := Aside0.mk H
                                              clear H
                                              have hnb83 := NB199_211.out
                                              have hnc83 := NB211_199.out
                                              have hnb84 := NB199_223.out
                                              have hnc84 := NB223_199.out
                                              have hcz85_0 : wc.cell? ⟨gb199, 0, none⟩ = some (.int .u8 t189) := (blk_cell BK199.out 0).trans rfl
                                              have hcz85_1 : wc.cell? ⟨gb199, 1, none⟩ = some (.int .i64 t190) := (blk_cell BK199.out 1).trans rfl
                                              have hcz85_2 : wc.cell? ⟨gb199, 2, none⟩ = some (.int .i64 t191) := (blk_cell BK199.out 2).trans rfl
                                              have hcz85_3 : wc.cell? ⟨gb199, 3, none⟩ = some (.int .i64 t192) := (blk_cell BK199.out 3).trans rfl
                                              have hcz85_4 : wc.cell? ⟨gb199, 4, none⟩ = some (.int .i64 t193) := (blk_cell BK199.out 4).trans rfl
                                              have hcz85_5 : wc.cell? ⟨gb199, 5, none⟩ = some (.int .i64 t194) := (blk_cell BK199.out 5).trans rfl
                                              have hcz85_6 : wc.cell? ⟨gb199, 6, none⟩ = some (.bool t195) := (blk_cell BK199.out 6).trans rfl
                                              have hcz85_7 : wc.cell? ⟨gb199, 7, none⟩ = some (.int .i64 t196) := (blk_cell BK199.out 7).trans rfl
                                              have hfz85_0 := blk_frozen BK199.out 0
                                              have hfz85_1 := blk_frozen BK199.out 1
                                              have hfz85_2 := blk_frozen BK199.out 2
                                              have hfz85_3 := blk_frozen BK199.out 3
                                              have hfz85_4 := blk_frozen BK199.out 4
                                              have hfz85_5 := blk_frozen BK199.out 5
                                              have hfz85_6 := blk_frozen BK199.out 6
                                              have hfz85_7 := blk_frozen BK199.out 7
                                              have hnb86 := NB223_211.out
                                              have hnc86 := NB211_223.out
                                              have hcz87_0 : wc.cell? ⟨gb223, 0, none⟩ = some (.int .u8 t213) := (blk_cell BK223.out 0).trans rfl
                                              have hcz87_1 : wc.cell? ⟨gb223, 1, none⟩ = some (.int .i64 t214) := (blk_cell BK223.out 1).trans rfl
                                              have hcz87_2 : wc.cell? ⟨gb223, 2, none⟩ = some (.int .i64 t215) := (blk_cell BK223.out 2).trans rfl
                                              have hcz87_3 : wc.cell? ⟨gb223, 3, none⟩ = some (.int .i64 t216) := (blk_cell BK223.out 3).trans rfl
                                              have hcz87_4 : wc.cell? ⟨gb223, 4, none⟩ = some (.int .i64 t217) := (blk_cell BK223.out 4).trans rfl
                                              have hcz87_5 : wc.cell? ⟨gb223, 5, none⟩ = some (.int .i64 t218) := (blk_cell BK223.out 5).trans rfl
                                              have hcz87_6 : wc.cell? ⟨gb223, 6, none⟩ = some (.bool t219) := (blk_cell BK223.out 6).trans rfl
                                              have hcz87_7 : wc.cell? ⟨gb223, 7, none⟩ = some (.int .i64 t220) := (blk_cell BK223.out 7).trans rfl
                                              have hfz87_0 := blk_frozen BK223.out 0
                                              have hfz87_1 := blk_frozen BK223.out 1
                                              have hfz87_2 := blk_frozen BK223.out 2
                                              have hfz87_3 := blk_frozen BK223.out 3
                                              have hfz87_4 := blk_frozen BK223.out 4
                                              have hfz87_5 := blk_frozen BK223.out 5
                                              have hfz87_6 := blk_frozen BK223.out 6
                                              have hfz87_7 := blk_frozen BK223.out 7
                                              go_wp2
                                              go_meet
                                              case rel => exact ⟨_, ((t191 != (wrap64 (t215 + 8)))), (by first | rfl | (simp; done) | (simp [*]; done)), H', ⟨by have := HJ8.out; first | omega | exact Nat.le_refl _⟩, ⟨by (with_reducible repeat (first | refine blk_drewN ?_ _ | refine blk_drew ?_ | refine blk_alloc ?_ _)); exact BK199.out⟩, ⟨by (with_reducible repeat (first | refine blk_drewN ?_ _ | refine blk_drew ?_ | refine blk_alloc ?_ _)); exact BK211.out⟩, ⟨by (with_reducible repeat (first | refine blk_drewN ?_ _ | refine blk_drew ?_ | refine blk_alloc ?_ _)); exact BK223.out⟩, ⟨by repeat (first | (with_reducible first | exact HB.out | apply below_alloc | apply pw_below_drewN | apply below_drew1 | refine below_set ?_ GE199.out | refine below_set ?_ GE211.out | refine below_set ?_ GE223.out) | exact HB.out)⟩⟩
                                      · rw [if_neg c76] at H
                                        try first | (with_reducible exact absurd H (sundiallaw08_OperandParts.j0_no ..)) | (with_reducible exact absurd H (sundiallaw08_OperandParts.j1_no ..)) | (with_reducible exact absurd H (sundiallaw08_OperandParts.some_no))
                                        all_goals
                                          have c76b0 : (t190 == (wrap64 (t214 + 8))) = false := beq_eq_false_iff_ne.mpr c76
                                          have c76b1 : (t190 != (wrap64 (t214 + 8))) = true := bne_iff_ne.mpr c76
                                          have H' := Aside0.mk H
                                          clear H
                                          have hnb88 := NB199_211.out
                                          have hnc88 := NB211_199.out
                                          have hnb89 := NB199_223.out
                                          have hnc89 := NB223_199.out
                                          have hcz90_0 : wc.cell? ⟨gb199, 0, none⟩ = some (.int .u8 t189) := (blk_cell BK199.out 0).trans rfl
                                          have hcz90_1 : wc.cell? ⟨gb199, 1, none⟩ = some (.int .i64 t190) := (blk_cell BK199.out 1).trans rfl
                                          have hcz90_2 : wc.cell? ⟨gb199, 2, none⟩ = some (.int .i64 t191) := (blk_cell BK199.out 2).trans rfl
                                          have hcz90_3 : wc.cell? ⟨gb199, 3, none⟩ = some (.int .i64 t192) := (blk_cell BK199.out 3).trans rfl
                                          have hcz90_4 : wc.cell? ⟨gb199, 4, none⟩ = some (.int .i64 t193) := (blk_cell BK199.out 4).trans rfl
                                          have hcz90_5 : wc.cell? ⟨gb199, 5, none⟩ = some (.int .i64 t194) := (blk_cell BK199.out 5).trans rfl
                                          have hcz90_6 : wc.cell? ⟨gb199, 6, none⟩ = some (.bool t195) := (blk_cell BK199.out 6).trans rfl
                                          have hcz90_7 : wc.cell? ⟨gb199, 7, none⟩ = some (.int .i64 t196) := (blk_cell BK199.out 7).trans rfl
                                          have hfz90_0 := blk_frozen BK199.out 0
                                          have hfz90_1 := blk_frozen BK199.out 1
                                          have hfz90_2 := blk_frozen BK199.out 2
                                          have hfz90_3 := blk_frozen BK199.out 3
                                          have hfz90_4 := blk_frozen BK199.out 4
                                          have hfz90_5 := blk_frozen BK199.out 5
                                          have hfz90_6 := blk_frozen BK199.out 6
                                          have hfz90_7 := blk_frozen BK199.out 7
                                          have hnb91 := NB223_211.out
                                          have hnc91 := NB211_223.out
                                          have hcz92_0 : wc.cell? ⟨gb223, 0, none⟩ = some (.int .u8 t213) := (blk_cell BK223.out 0).trans rfl
                                          have hcz92_1 : wc.cell? ⟨gb223, 1, none⟩ = some (.int .i64 t214) := (blk_cell BK223.out 1).trans rfl
                                          have hcz92_2 : wc.cell? ⟨gb223, 2, none⟩ = some (.int .i64 t215) := (blk_cell BK223.out 2).trans rfl
                                          have hcz92_3 : wc.cell? ⟨gb223, 3, none⟩ = some (.int .i64 t216) := (blk_cell BK223.out 3).trans rfl
                                          have hcz92_4 : wc.cell? ⟨gb223, 4, none⟩ = some (.int .i64 t217) := (blk_cell BK223.out 4).trans rfl
                                          have hcz92_5 : wc.cell? ⟨gb223, 5, none⟩ = some (.int .i64 t218) := (blk_cell BK223.out 5).trans rfl
                                          have hcz92_6 : wc.cell? ⟨gb223, 6, none⟩ = some (.bool t219) := (blk_cell BK223.out 6).trans rfl
                                          have hcz92_7 : wc.cell? ⟨gb223, 7, none⟩ = some (.int .i64 t220) := (blk_cell BK223.out 7).trans rfl
                                          have hfz92_0 := blk_frozen BK223.out 0
                                          have hfz92_1 := blk_frozen BK223.out 1
                                          have hfz92_2 := blk_frozen BK223.out 2
                                          have hfz92_3 := blk_frozen BK223.out 3
                                          have hfz92_4 := blk_frozen BK223.out 4
                                          have hfz92_5 := blk_frozen BK223.out 5
                                          have hfz92_6 := blk_frozen BK223.out 6
                                          have hfz92_7 := blk_frozen BK223.out 7
                                          go_wp2
                                          go_meet
                                          case rel => exact ⟨_, (true), (by first | rfl | (simp; done) | (simp [*]; done)), H', ⟨by have := HJ8.out; first | omega | exact Nat.le_refl _⟩, ⟨by (with_reducible repeat (first | refine blk_drewN ?_ _ | refine blk_drew ?_ | refine blk_alloc ?_ _)); exact BK199.out⟩, ⟨by (with_reducible repeat (first | refine blk_drewN ?_ _ | refine blk_drew ?_ | refine blk_alloc ?_ _)); exact BK211.out⟩, ⟨by (with_reducible repeat (first | refine blk_drewN ?_ _ | refine blk_drew ?_ | refine blk_alloc ?_ _)); exact BK223.out⟩, ⟨by repeat (first | (with_reducible first | exact HB.out | apply below_alloc | apply pw_below_drewN | apply below_drew1 | refine below_set ?_ GE199.out | refine below_set ?_ GE211.out | refine below_set ?_ GE223.out) | exact HB.out)⟩⟩
                          · rw [if_neg c57] at H
                            try first | (with_reducible exact absurd H (sundiallaw08_OperandParts.j0_no ..)) | (with_reducible exact absurd H (sundiallaw08_OperandParts.j1_no ..)) | (with_reducible exact absurd H (sundiallaw08_OperandParts.some_no))
                            all_goals
                              have c57b0 : (t189 == t213) = false := beq_eq_false_iff_ne.mpr c57
                              have c57b1 : (t189 != t213) = true := bne_iff_ne.mpr c57
                              have H' := Aside0.mk H
                              clear H
                              have hnb93 := NB199_211.out
                              have hnc93 := NB211_199.out
                              have hnb94 := NB199_223.out
                              have hnc94 := NB223_199.out
                              have hcz95_0 : wc.cell? ⟨gb199, 0, none⟩ = some (.int .u8 t189) := (blk_cell BK199.out 0).trans rfl
                              have hcz95_1 : wc.cell? ⟨gb199, 1, none⟩ = some (.int .i64 t190) := (blk_cell BK199.out 1).trans rfl
                              have hcz95_2 : wc.cell? ⟨gb199, 2, none⟩ = some (.int .i64 t191) := (blk_cell BK199.out 2).trans rfl
                              have hcz95_3 : wc.cell? ⟨gb199, 3, none⟩ = some (.int .i64 t192) := (blk_cell BK199.out 3).trans rfl
                              have hcz95_4 : wc.cell? ⟨gb199, 4, none⟩ = some (.int .i64 t193) := (blk_cell BK199.out 4).trans rfl
                              have hcz95_5 : wc.cell? ⟨gb199, 5, none⟩ = some (.int .i64 t194) := (blk_cell BK199.out 5).trans rfl
                              have hcz95_6 : wc.cell? ⟨gb199, 6, none⟩ = some (.bool t195) := (blk_cell BK199.out 6).trans rfl
                              have hcz95_7 : wc.cell? ⟨gb199, 7, none⟩ = some (.int .i64 t196) := (blk_cell BK199.out 7).trans rfl
                              have hfz95_0 := blk_frozen BK199.out 0
                              have hfz95_1 := blk_frozen BK199.out 1
                              have hfz95_2 := blk_frozen BK199.out 2
                              have hfz95_3 := blk_frozen BK199.out 3
                              have hfz95_4 := blk_frozen BK199.out 4
                              have hfz95_5 := blk_frozen BK199.out 5
                              have hfz95_6 := blk_frozen BK199.out 6
                              have hfz95_7 := blk_frozen BK199.out 7
                              have hnb96 := NB223_211.out
                              have hnc96 := NB211_223.out
                              have hcz97_0 : wc.cell? ⟨gb223, 0, none⟩ = some (.int .u8 t213) := (blk_cell BK223.out 0).trans rfl
                              have hcz97_1 : wc.cell? ⟨gb223, 1, none⟩ = some (.int .i64 t214) := (blk_cell BK223.out 1).trans rfl
                              have hcz97_2 : wc.cell? ⟨gb223, 2, none⟩ = some (.int .i64 t215) := (blk_cell BK223.out 2).trans rfl
                              have hcz97_3 : wc.cell? ⟨gb223, 3, none⟩ = some (.int .i64 t216) := (blk_cell BK223.out 3).trans rfl
                              have hcz97_4 : wc.cell? ⟨gb223, 4, none⟩ = some (.int .i64 t217) := (blk_cell BK223.out 4).trans rfl
                              have hcz97_5 : wc.cell? ⟨gb223, 5, none⟩ = some (.int .i64 t218) := (blk_cell BK223.out 5).trans rfl
                              have hcz97_6 : wc.cell? ⟨gb223, 6, none⟩ = some (.bool t219) := (blk_cell BK223.out 6).trans rfl
                              have hcz97_7 : wc.cell? ⟨gb223, 7, none⟩ = some (.int .i64 t220) := (blk_cell BK223.out 7).trans rfl
                              have hfz97_0 := blk_frozen BK223.out 0
                              have hfz97_1 := blk_frozen BK223.out 1
                              have hfz97_2 := blk_frozen BK223.out 2
                              have hfz97_3 := blk_frozen BK223.out 3
                              have hfz97_4 := blk_frozen BK223.out 4
                              have hfz97_5 := blk_frozen BK223.out 5
                              have hfz97_6 := blk_frozen BK223.out 6
                              have hfz97_7 := blk_frozen BK223.out 7
                              go_wp2
                              go_meet
                              case rel => exact ⟨_, (true), (by first | rfl | (simp; done) | (simp [*]; done)), H', ⟨by have := HJ8.out; first | omega | exact Nat.le_refl _⟩, ⟨by (with_reducible repeat (first | refine blk_drewN ?_ _ | refine blk_drew ?_ | refine blk_alloc ?_ _)); exact BK199.out⟩, ⟨by (with_reducible repeat (first | refine blk_drewN ?_ _ | refine blk_drew ?_ | refine blk_alloc ?_ _)); exact BK211.out⟩, ⟨by (with_reducible repeat (first | refine blk_drewN ?_ _ | refine blk_drew ?_ | refine blk_alloc ?_ _)); exact BK223.out⟩, ⟨by repeat (first | (with_reducible first | exact HB.out | apply below_alloc | apply pw_below_drewN | apply below_drew1 | refine below_set ?_ GE199.out | refine below_set ?_ GE211.out | refine below_set ?_ GE223.out) | exact HB.out)⟩⟩
                      · rw [if_neg c56] at H
                        try first | (with_reducible exact absurd H (sundiallaw08_OperandParts.j0_no ..)) | (with_reducible exact absurd H (sundiallaw08_OperandParts.j1_no ..)) | (with_reducible exact absurd H (sundiallaw08_OperandParts.some_no))
                        all_goals
                          have c56b0 : (t194 == t218) = false := beq_eq_false_iff_ne.mpr c56
                          have c56b1 : (t194 != t218) = true := bne_iff_ne.mpr c56
                          have H' := Aside0.mk H
                          clear H
                          have hnb98 := NB199_211.out
                          have hnc98 := NB211_199.out
                          have hnb99 := NB199_223.out
                          have hnc99 := NB223_199.out
                          have hcz100_0 : wc.cell? ⟨gb199, 0, none⟩ = some (.int .u8 t189) := (blk_cell BK199.out 0).trans rfl
                          have hcz100_1 : wc.cell? ⟨gb199, 1, none⟩ = some (.int .i64 t190) := (blk_cell BK199.out 1).trans rfl
                          have hcz100_2 : wc.cell? ⟨gb199, 2, none⟩ = some (.int .i64 t191) := (blk_cell BK199.out 2).trans rfl
                          have hcz100_3 : wc.cell? ⟨gb199, 3, none⟩ = some (.int .i64 t192) := (blk_cell BK199.out 3).trans rfl
                          have hcz100_4 : wc.cell? ⟨gb199, 4, none⟩ = some (.int .i64 t193) := (blk_cell BK199.out 4).trans rfl
                          have hcz100_5 : wc.cell? ⟨gb199, 5, none⟩ = some (.int .i64 t194) := (blk_cell BK199.out 5).trans rfl
                          have hcz100_6 : wc.cell? ⟨gb199, 6, none⟩ = some (.bool t195) := (blk_cell BK199.out 6).trans rfl
                          have hcz100_7 : wc.cell? ⟨gb199, 7, none⟩ = some (.int .i64 t196) := (blk_cell BK199.out 7).trans rfl
                          have hfz100_0 := blk_frozen BK199.out 0
                          have hfz100_1 := blk_frozen BK199.out 1
                          have hfz100_2 := blk_frozen BK199.out 2
                          have hfz100_3 := blk_frozen BK199.out 3
                          have hfz100_4 := blk_frozen BK199.out 4
                          have hfz100_5 := blk_frozen BK199.out 5
                          have hfz100_6 := blk_frozen BK199.out 6
                          have hfz100_7 := blk_frozen BK199.out 7
                          have hnb101 := NB223_211.out
                          have hnc101 := NB211_223.out
                          have hcz102_0 : wc.cell? ⟨gb223, 0, none⟩ = some (.int .u8 t213) := (blk_cell BK223.out 0).trans rfl
                          have hcz102_1 : wc.cell? ⟨gb223, 1, none⟩ = some (.int .i64 t214) := (blk_cell BK223.out 1).trans rfl
                          have hcz102_2 : wc.cell? ⟨gb223, 2, none⟩ = some (.int .i64 t215) := (blk_cell BK223.out 2).trans rfl
                          have hcz102_3 : wc.cell? ⟨gb223, 3, none⟩ = some (.int .i64 t216) := (blk_cell BK223.out 3).trans rfl
                          have hcz102_4 : wc.cell? ⟨gb223, 4, none⟩ = some (.int .i64 t217) := (blk_cell BK223.out 4).trans rfl
                          have hcz102_5 : wc.cell? ⟨gb223, 5, none⟩ = some (.int .i64 t218) := (blk_cell BK223.out 5).trans rfl
                          have hcz102_6 : wc.cell? ⟨gb223, 6, none⟩ = some (.bool t219) := (blk_cell BK223.out 6).trans rfl
                          have hcz102_7 : wc.cell? ⟨gb223, 7, none⟩ = some (.int .i64 t220) := (blk_cell BK223.out 7).trans rfl
                          have hfz102_0 := blk_frozen BK223.out 0
                          have hfz102_1 := blk_frozen BK223.out 1
                          have hfz102_2 := blk_frozen BK223.out 2
                          have hfz102_3 := blk_frozen BK223.out 3
                          have hfz102_4 := blk_frozen BK223.out 4
                          have hfz102_5 := blk_frozen BK223.out 5
                          have hfz102_6 := blk_frozen BK223.out 6
                          have hfz102_7 := blk_frozen BK223.out 7
                          go_wp2
                          go_meet
                          case rel => exact ⟨_, (true), (by first | rfl | (simp; done) | (simp [*]; done)), H', ⟨by have := HJ8.out; first | omega | exact Nat.le_refl _⟩, ⟨by (with_reducible repeat (first | refine blk_drewN ?_ _ | refine blk_drew ?_ | refine blk_alloc ?_ _)); exact BK199.out⟩, ⟨by (with_reducible repeat (first | refine blk_drewN ?_ _ | refine blk_drew ?_ | refine blk_alloc ?_ _)); exact BK211.out⟩, ⟨by (with_reducible repeat (first | refine blk_drewN ?_ _ | refine blk_drew ?_ | refine blk_alloc ?_ _)); exact BK223.out⟩, ⟨by repeat (first | (with_reducible first | exact HB.out | apply below_alloc | apply pw_below_drewN | apply below_drew1 | refine below_set ?_ GE199.out | refine below_set ?_ GE211.out | refine below_set ?_ GE223.out) | exact HB.out)⟩⟩
                  · rw [if_neg c55] at H
                    try first | (with_reducible exact absurd H (sundiallaw08_OperandParts.j0_no ..)) | (with_reducible exact absurd H (sundiallaw08_OperandParts.j1_no ..)) | (with_reducible exact absurd H (sundiallaw08_OperandParts.some_no))
                    all_goals
                      have c55b0 : (t188 == (wrap64 (t212 + (wrap64 (8 * (wrap64 (Go.bits .and .u8 (a1 / 4) 1))))))) = false := beq_eq_false_iff_ne.mpr c55
                      have c55b1 : (t188 != (wrap64 (t212 + (wrap64 (8 * (wrap64 (Go.bits .and .u8 (a1 / 4) 1))))))) = true := bne_iff_ne.mpr c55
                      (first | rw [c55b0] | (simp only [i64_w, i32_w]; rw [c55b0]) | skip)
                      have H' := Aside0.mk H
                      clear H
                      go_wp2
                      go_meet
                      case rel => exact ⟨_, (true), (by first | rfl | (simp; done) | (simp [*]; done)), H', ⟨by have := HJ8.out; first | omega | exact Nat.le_refl _⟩, ⟨by (with_reducible repeat (first | refine blk_drewN ?_ _ | refine blk_drew ?_ | refine blk_alloc ?_ _)); exact BK199.out⟩, ⟨by (with_reducible repeat (first | refine blk_drewN ?_ _ | refine blk_drew ?_ | refine blk_alloc ?_ _)); exact BK211.out⟩, ⟨by (with_reducible repeat (first | refine blk_drewN ?_ _ | refine blk_drew ?_ | refine blk_alloc ?_ _)); exact BK223.out⟩, ⟨by repeat (first | (with_reducible first | exact HB.out | apply below_alloc | apply pw_below_drewN | apply below_drew1 | refine below_set ?_ GE199.out | refine below_set ?_ GE211.out | refine below_set ?_ GE223.out) | exact HB.out)⟩⟩
                case rest =>
                  clear HC54
                  try clear c1
                  try clear p2
                  try clear c5
                  try clear c6
                  try clear p6
                  try clear c7
                  try clear c8
                  try clear c9
                  try clear c10
                  try clear c52
                  try clear c53
                  try clear c53b0
                  try clear c53b1
                  try clear c55
                  try clear c55b0
                  try clear c55b1
                  try clear c56
                  try clear c56b0
                  try clear c56b1
                  try clear c57
                  try clear c57b0
                  try clear c57b1
                  try clear c58
                  try clear c58b0
                  try clear c58b1
                  try clear c58b2
                  try clear c59
                  try clear c60
                  try clear c62
                  try clear c64
                  try clear c64b0
                  try clear c64b1
                  try clear p64
                  try clear c65
                  try clear c65b0
                  try clear c65b1
                  try clear c66
                  try clear c67
                  try clear c69
                  try clear c71
                  try clear c72
                  try clear c74
                  try clear c76
                  try clear c76b0
                  try clear c76b1
                  try clear c77
                  try clear c77b0
                  try clear c77b1
                  try clear c78
                  try clear c79
                  try clear c81
                  try clear c83
                  try clear c84
                  try clear c86
                  try clear c88
                  try clear c89
                  try clear c91
                  try clear c93
                  try clear c94
                  try clear c96
                  try clear c98
                  try clear c99
                  try clear c101
                  try clear hcz100_0
                  try clear hcz100_1
                  try clear hcz100_2
                  try clear hcz100_3
                  try clear hcz100_4
                  try clear hcz100_5
                  try clear hcz100_6
                  try clear hcz100_7
                  try clear hcz102_0
                  try clear hcz102_1
                  try clear hcz102_2
                  try clear hcz102_3
                  try clear hcz102_4
                  try clear hcz102_5
                  try clear hcz102_6
                  try clear hcz102_7
                  try clear hcz41_0
                  try clear hcz41_1
                  try clear hcz41_2
                  try clear hcz41_3
                  try clear hcz41_4
                  try clear hcz41_5
                  try clear hcz41_6
                  try clear hcz41_7
                  try clear hcz44_0
                  try clear hcz44_1
                  try clear hcz44_2
                  try clear hcz44_3
                  try clear hcz44_4
                  try clear hcz44_5
                  try clear hcz44_6
                  try clear hcz44_7
                  try clear hcz46_0
                  try clear hcz46_1
                  try clear hcz46_2
                  try clear hcz46_3
                  try clear hcz46_4
                  try clear hcz46_5
                  try clear hcz46_6
                  try clear hcz46_7
                  try clear hcz49_0
                  try clear hcz49_1
                  try clear hcz49_2
                  try clear hcz49_3
                  try clear hcz49_4
                  try clear hcz49_5
                  try clear hcz49_6
                  try clear hcz49_7
                  try clear hcz51_0
                  try clear hcz51_1
                  try clear hcz51_2
                  try clear hcz51_3
                  try clear hcz51_4
                  try clear hcz51_5
                  try clear hcz51_6
                  try clear hcz51_7
                  try clear hcz61_0
                  try clear hcz61_1
                  try clear hcz61_2
                  try clear hcz61_3
                  try clear hcz61_4
                  try clear hcz61_5
                  try clear hcz61_6
                  try clear hcz61_7
                  try clear hcz63_0
                  try clear hcz63_1
                  try clear hcz63_2
                  try clear hcz63_3
                  try clear hcz63_4
                  try clear hcz63_5
                  try clear hcz63_6
                  try clear hcz63_7
                  try clear hcz68_0
                  try clear hcz68_1
                  try clear hcz68_2
                  try clear hcz68_3
                  try clear hcz68_4
                  try clear hcz68_5
                  try clear hcz68_6
                  try clear hcz68_7
                  try clear hcz70_0
                  try clear hcz70_1
                  try clear hcz70_2
                  try clear hcz70_3
                  try clear hcz70_4
                  try clear hcz70_5
                  try clear hcz70_6
                  try clear hcz70_7
                  try clear hcz73_0
                  try clear hcz73_1
                  try clear hcz73_2
                  try clear hcz73_3
                  try clear hcz73_4
                  try clear hcz73_5
                  try clear hcz73_6
                  try clear hcz73_7
                  try clear hcz75_0
                  try clear hcz75_1
                  try clear hcz75_2
                  try clear hcz75_3
                  try clear hcz75_4
                  try clear hcz75_5
                  try clear hcz75_6
                  try clear hcz75_7
                  try clear hcz80_0
                  try clear hcz80_1
                  try clear hcz80_2
                  try clear hcz80_3
                  try clear hcz80_4
                  try clear hcz80_5
                  try clear hcz80_6
                  try clear hcz80_7
                  try clear hcz82_0
                  try clear hcz82_1
                  try clear hcz82_2
                  try clear hcz82_3
                  try clear hcz82_4
                  try clear hcz82_5
                  try clear hcz82_6
                  try clear hcz82_7
                  try clear hcz85_0
                  try clear hcz85_1
                  try clear hcz85_2
                  try clear hcz85_3
                  try clear hcz85_4
                  try clear hcz85_5
                  try clear hcz85_6
                  try clear hcz85_7
                  try clear hcz87_0
                  try clear hcz87_1
                  try clear hcz87_2
                  try clear hcz87_3
                  try clear hcz87_4
                  try clear hcz87_5
                  try clear hcz87_6
                  try clear hcz87_7
                  try clear hcz90_0
                  try clear hcz90_1
                  try clear hcz90_2
                  try clear hcz90_3
                  try clear hcz90_4
                  try clear hcz90_5
                  try clear hcz90_6
                  try clear hcz90_7
                  try clear hcz92_0
                  try clear hcz92_1
                  try clear hcz92_2
                  try clear hcz92_3
                  try clear hcz92_4
                  try clear hcz92_5
                  try clear hcz92_6
                  try clear hcz92_7
                  try clear hcz95_0
                  try clear hcz95_1
                  try clear hcz95_2
                  try clear hcz95_3
                  try clear hcz95_4
                  try clear hcz95_5
                  try clear hcz95_6
                  try clear hcz95_7
                  try clear hcz97_0
                  try clear hcz97_1
                  try clear hcz97_2
                  try clear hcz97_3
                  try clear hcz97_4
                  try clear hcz97_5
                  try clear hcz97_6
                  try clear hcz97_7
                  try clear hfz100_0
                  try clear hfz100_1
                  try clear hfz100_2
                  try clear hfz100_3
                  try clear hfz100_4
                  try clear hfz100_5
                  try clear hfz100_6
                  try clear hfz100_7
                  try clear hfz102_0
                  try clear hfz102_1
                  try clear hfz102_2
                  try clear hfz102_3
                  try clear hfz102_4
                  try clear hfz102_5
                  try clear hfz102_6
                  try clear hfz102_7
                  try clear hfz12_0
                  try clear hfz12_1
                  try clear hfz12_2
                  try clear hfz12_3
                  try clear hfz12_4
                  try clear hfz12_5
                  try clear hfz12_6
                  try clear hfz12_7
                  try clear hfz16_0
                  try clear hfz16_1
                  try clear hfz16_2
                  try clear hfz16_3
                  try clear hfz16_4
                  try clear hfz16_5
                  try clear hfz16_6
                  try clear hfz16_7
                  try clear hfz21_0
                  try clear hfz21_1
                  try clear hfz21_2
                  try clear hfz21_3
                  try clear hfz21_4
                  try clear hfz21_5
                  try clear hfz21_6
                  try clear hfz21_7
                  try clear hfz26_0
                  try clear hfz26_1
                  try clear hfz26_2
                  try clear hfz26_3
                  try clear hfz26_4
                  try clear hfz26_5
                  try clear hfz26_6
                  try clear hfz26_7
                  try clear hfz28_0
                  try clear hfz28_1
                  try clear hfz28_2
                  try clear hfz28_3
                  try clear hfz28_4
                  try clear hfz28_5
                  try clear hfz28_6
                  try clear hfz28_7
                  try clear hfz34_0
                  try clear hfz34_1
                  try clear hfz34_2
                  try clear hfz34_3
                  try clear hfz34_4
                  try clear hfz34_5
                  try clear hfz34_6
                  try clear hfz34_7
                  try clear hfz36_0
                  try clear hfz36_1
                  try clear hfz36_2
                  try clear hfz36_3
                  try clear hfz36_4
                  try clear hfz36_5
                  try clear hfz36_6
                  try clear hfz36_7
                  try clear hfz39_0
                  try clear hfz39_1
                  try clear hfz39_2
                  try clear hfz39_3
                  try clear hfz39_4
                  try clear hfz39_5
                  try clear hfz39_6
                  try clear hfz39_7
                  try clear hfz41_0
                  try clear hfz41_1
                  try clear hfz41_2
                  try clear hfz41_3
                  try clear hfz41_4
                  try clear hfz41_5
                  try clear hfz41_6
                  try clear hfz41_7
                  try clear hfz44_0
                  try clear hfz44_1
                  try clear hfz44_2
                  try clear hfz44_3
                  try clear hfz44_4
                  try clear hfz44_5
                  try clear hfz44_6
                  try clear hfz44_7
                  try clear hfz46_0
                  try clear hfz46_1
                  try clear hfz46_2
                  try clear hfz46_3
                  try clear hfz46_4
                  try clear hfz46_5
                  try clear hfz46_6
                  try clear hfz46_7
                  try clear hfz49_0
                  try clear hfz49_1
                  try clear hfz49_2
                  try clear hfz49_3
                  try clear hfz49_4
                  try clear hfz49_5
                  try clear hfz49_6
                  try clear hfz49_7
                  try clear hfz51_0
                  try clear hfz51_1
                  try clear hfz51_2
                  try clear hfz51_3
                  try clear hfz51_4
                  try clear hfz51_5
                  try clear hfz51_6
                  try clear hfz51_7
                  try clear hfz61_0
                  try clear hfz61_1
                  try clear hfz61_2
                  try clear hfz61_3
                  try clear hfz61_4
                  try clear hfz61_5
                  try clear hfz61_6
                  try clear hfz61_7
                  try clear hfz63_0
                  try clear hfz63_1
                  try clear hfz63_2
                  try clear hfz63_3
                  try clear hfz63_4
                  try clear hfz63_5
                  try clear hfz63_6
                  try clear hfz63_7
                  try clear hfz68_0
                  try clear hfz68_1
                  try clear hfz68_2
                  try clear hfz68_3
                  try clear hfz68_4
                  try clear hfz68_5
                  try clear hfz68_6
                  try clear hfz68_7
                  try clear hfz70_0
                  try clear hfz70_1
                  try clear hfz70_2
                  try clear hfz70_3
                  try clear hfz70_4
                  try clear hfz70_5
                  try clear hfz70_6
                  try clear hfz70_7
                  try clear hfz73_0
                  try clear hfz73_1
                  try clear hfz73_2
                  try clear hfz73_3
                  try clear hfz73_4
                  try clear hfz73_5
                  try clear hfz73_6
                  try clear hfz73_7
                  try clear hfz75_0
                  try clear hfz75_1
                  try clear hfz75_2
                  try clear hfz75_3
                  try clear hfz75_4
                  try clear hfz75_5
                  try clear hfz75_6
                  try clear hfz75_7
                  try clear hfz80_0
                  try clear hfz80_1
                  try clear hfz80_2
                  try clear hfz80_3
                  try clear hfz80_4
                  try clear hfz80_5
                  try clear hfz80_6
                  try clear hfz80_7
                  try clear hfz82_0
                  try clear hfz82_1
                  try clear hfz82_2
                  try clear hfz82_3
                  try clear hfz82_4
                  try clear hfz82_5
                  try clear hfz82_6
                  try clear hfz82_7
                  try clear hfz85_0
                  try clear hfz85_1
                  try clear hfz85_2
                  try clear hfz85_3
                  try clear hfz85_4
                  try clear hfz85_5
                  try clear hfz85_6
                  try clear hfz85_7
                  try clear hfz87_0
                  try clear hfz87_1
                  try clear hfz87_2
                  try clear hfz87_3
                  try clear hfz87_4
                  try clear hfz87_5
                  try clear hfz87_6
                  try clear hfz87_7
                  try clear hfz90_0
                  try clear hfz90_1
                  try clear hfz90_2
                  try clear hfz90_3
                  try clear hfz90_4
                  try clear hfz90_5
                  try clear hfz90_6
                  try clear hfz90_7
                  try clear hfz92_0
                  try clear hfz92_1
                  try clear hfz92_2
                  try clear hfz92_3
                  try clear hfz92_4
                  try clear hfz92_5
                  try clear hfz92_6
                  try clear hfz92_7
                  try clear hfz95_0
                  try clear hfz95_1
                  try clear hfz95_2
                  try clear hfz95_3
                  try clear hfz95_4
                  try clear hfz95_5
                  try clear hfz95_6
                  try clear hfz95_7
                  try clear hfz97_0
                  try clear hfz97_1
                  try clear hfz97_2
                  try clear hfz97_3
                  try clear hfz97_4
                  try clear hfz97_5
                  try clear hfz97_6
                  try clear hfz97_7
                  obtain ⟨kq, x137_53, rfl, HA, HJ53, BK199, BK211, BK223, HB⟩ := hcut
                  cases kq with
                  | zero => exact absurd HA.out (by simp [sundiallaw08_OperandParts.j1])
                  | succ kj53 =>
                    have H := HA.out
                    clear HA
                    simp only [sundiallaw08_OperandParts.j1] at H
                    by_cases c103 : x137_53 = true
                    · subst c103
                      have H1 : (some false) = some true := by rw [if_pos rfl] at H; exact H
                      clear H
                      have H := H1
                      clear H1
                      try (exact absurd H sundiallaw08_OperandParts.some_no)
                      all_goals
                        obtain rfl := Option.some.inj H
                        go_wp2
                        go_ret
                        exact ⟨by first | rfl | (simp [errW_none, errW_some] <;> rfl) | (simp [*, errW_none, errW_some] <;> rfl), by repeat (first | (with_reducible first | exact HB.out | apply below_alloc | apply pw_below_drewN | apply below_drew1 | refine below_set ?_ GE199.out | refine below_set ?_ GE211.out | refine below_set ?_ GE223.out) | exact HB.out)⟩
                    · replace c103 := Bool.eq_false_iff.mpr c103
                      subst c103
                      have H1 : ((operand_Uses.f t189 t190 t191 t192 t193 t194 t195 t196).bind fun t225 => (sundiallaw08_OperandParts.l0 kj53 t225 0 t189 t190 t191 t192 t193 t194 t195 t196 t213 t214 t215 t216 t217 t218 t219 t220)) = some true := by rw [if_neg (show ¬ (false = true) by decide)] at H; exact H
                      clear H
                      have H := H1
                      clear H1
                      replace H := Option.bind_eq_some_iff.mp H
                      obtain ⟨t225, A1040, H⟩ := H
                      replace H : (sundiallaw08_OperandParts.l0 kj53 t225 0 t189 t190 t191 t192 t193 t194 t195 t196 t213 t214 t215 t216 t217 t218 t219 t220) = some true := H
                      have A104 := Aside0.mk A1040
                      clear A1040
                      have H' := Aside0.mk H
                      clear H
                      have hnb105 := NB199_211.out
                      have hnc105 := NB211_199.out
                      have hnb106 := NB199_223.out
                      have hnc106 := NB223_199.out
                      have hcz107_0 : wc.cell? ⟨gb199, 0, none⟩ = some (.int .u8 t189) := (blk_cell BK199.out 0).trans rfl
                      have hcz107_1 : wc.cell? ⟨gb199, 1, none⟩ = some (.int .i64 t190) := (blk_cell BK199.out 1).trans rfl
                      have hcz107_2 : wc.cell? ⟨gb199, 2, none⟩ = some (.int .i64 t191) := (blk_cell BK199.out 2).trans rfl
                      have hcz107_3 : wc.cell? ⟨gb199, 3, none⟩ = some (.int .i64 t192) := (blk_cell BK199.out 3).trans rfl
                      have hcz107_4 : wc.cell? ⟨gb199, 4, none⟩ = some (.int .i64 t193) := (blk_cell BK199.out 4).trans rfl
                      have hcz107_5 : wc.cell? ⟨gb199, 5, none⟩ = some (.int .i64 t194) := (blk_cell BK199.out 5).trans rfl
                      have hcz107_6 : wc.cell? ⟨gb199, 6, none⟩ = some (.bool t195) := (blk_cell BK199.out 6).trans rfl
                      have hcz107_7 : wc.cell? ⟨gb199, 7, none⟩ = some (.int .i64 t196) := (blk_cell BK199.out 7).trans rfl
                      have hfz107_0 := blk_frozen BK199.out 0
                      have hfz107_1 := blk_frozen BK199.out 1
                      have hfz107_2 := blk_frozen BK199.out 2
                      have hfz107_3 := blk_frozen BK199.out 3
                      have hfz107_4 := blk_frozen BK199.out 4
                      have hfz107_5 := blk_frozen BK199.out 5
                      have hfz107_6 := blk_frozen BK199.out 6
                      have hfz107_7 := blk_frozen BK199.out 7
                      go_wp2_with (first | ((with_reducible refine gate_callee (f := 17) rfl ?_); refine goesL_ (some 139) rfl rfl Tryd.func17 (by kernel_rfl) rfl #[.agg #[.int .u8 t189, .int .i64 t190, .int .i64 t191, .int .i64 t192, .int .i64 t193, .int .i64 t194, .bool t195, .int .i64 t196]] rfl (by (try simp only [List.map_toArray, List.map_cons, List.map_nil]); first | done | rfl | (simp only [List.length_drop, List.length_take]; rfl)) ?_; (with_reducible refine (operand_Uses.calls t189 t190 t191 t192 t193 t194 t195 t196 t225 _ A104.out).mono ?_); rintro e w108 ⟨v226, rfl, ho0, hb⟩; refine ⟨_, rfl, ?_⟩; have n0_ := Aside0.mk (Kd.R_lower ho0 (below_size (by repeat (first | (with_reducible first | exact HB.out | apply below_alloc | apply pw_below_drewN | apply below_drew1 | refine below_set ?_ GE199.out | refine below_set ?_ GE211.out | refine below_set ?_ GE223.out) | exact HB.out)))); have n1_ := Aside0.mk (blk_below (g := gb199) (o := .cells #[.int .u8 t189, .int .i64 t190, .int .i64 t191, .int .i64 t192, .int .i64 t193, .int .i64 t194, .bool t195, .int .i64 t196] 23 (0, 0)) (by (with_reducible repeat (first | refine blk_drewN ?_ _ | refine blk_drew ?_ | refine blk_alloc ?_ _)); exact BK199.out) hb); have n2_ := Aside0.mk (blk_below (g := gb211) (o := .cells #[.int .u8 t201, .int .i64 t202, .int .i64 t203, .int .i64 t204, .int .i64 t205, .int .i64 t206, .bool t207, .int .i64 t208] 23 (0, 0)) (by (with_reducible repeat (first | refine blk_drewN ?_ _ | refine blk_drew ?_ | refine blk_alloc ?_ _)); exact BK211.out) hb); have n3_ := Aside0.mk (blk_below (g := gb223) (o := .cells #[.int .u8 t213, .int .i64 t214, .int .i64 t215, .int .i64 t216, .int .i64 t217, .int .i64 t218, .bool t219, .int .i64 t220] 23 (0, 0)) (by (with_reducible repeat (first | refine blk_drewN ?_ _ | refine blk_drew ?_ | refine blk_alloc ?_ _)); exact BK223.out) hb); have n4_ := Aside0.mk (below_step (by repeat (first | (with_reducible first | exact HB.out | apply below_alloc | apply pw_below_drewN | apply below_drew1 | refine below_set ?_ GE199.out | refine below_set ?_ GE211.out | refine below_set ?_ GE223.out) | exact HB.out)) hb); clear BK199; clear BK211; clear BK223; clear HB; have HO227 := n0_; have BK199 := n1_; have BK211 := n2_; have BK223 := n3_; have HB := n4_; clear n0_ n1_ n2_ n3_ n4_; (try clear hb); (try clear hb2); (try clear hk); (try clear hi); (try clear ho0)))
                      go_loopg [18] kj53 (fun kq v18 w' => ∃ (x18_3 : Int), v18 = .int .i64 x18_3 ∧ Aside0 (sundiallaw08_OperandParts.l0 kq t225 x18_3 t189 t190 t191 t192 t193 t194 t195 t196 t213 t214 t215 t216 t217 t218 t219 t220 = some true) ∧ Aside0 (kq ≤ kj53) ∧ Aside0 (Kd.R (Kd.int .i64) 3 w' w.heap.size (fun _ => True) v226 t225) ∧ Aside0 (w'.heap[gb199]? = some (.cells #[.int .u8 t189, .int .i64 t190, .int .i64 t191, .int .i64 t192, .int .i64 t193, .int .i64 t194, .bool t195, .int .i64 t196] 23 (0, 0))) ∧ Aside0 (w'.heap[gb211]? = some (.cells #[.int .u8 t201, .int .i64 t202, .int .i64 t203, .int .i64 t204, .int .i64 t205, .int .i64 t206, .bool t207, .int .i64 t208] 23 (0, 0))) ∧ Aside0 (w'.heap[gb223]? = some (.cells #[.int .u8 t213, .int .i64 t214, .int .i64 t215, .int .i64 t216, .int .i64 t217, .int .i64 t218, .bool t219, .int .i64 t220] 23 (0, 0))) ∧ Aside0 (Below w.heap.size w w'))
                      case atStart => exact ⟨(0), (by first | rfl | (simp; done) | (simp [*]; done)), H', ⟨Nat.le_refl _⟩, ⟨by (with_reducible repeat (first | apply Kd.R_alloc | apply Kd.R_drewN | apply Kd.R_drew)); exact HO227.out⟩, ⟨by (with_reducible repeat (first | refine blk_drewN ?_ _ | refine blk_drew ?_ | refine blk_alloc ?_ _)); exact BK199.out⟩, ⟨by (with_reducible repeat (first | refine blk_drewN ?_ _ | refine blk_drew ?_ | refine blk_alloc ?_ _)); exact BK211.out⟩, ⟨by (with_reducible repeat (first | refine blk_drewN ?_ _ | refine blk_drew ?_ | refine blk_alloc ?_ _)); exact BK223.out⟩, ⟨by repeat (first | (with_reducible first | exact HB.out | apply below_alloc | apply pw_below_drewN | apply below_drew1 | refine below_set ?_ GE199.out | refine below_set ?_ GE211.out | refine below_set ?_ GE223.out) | exact HB.out)⟩⟩
                      case round =>
                        clear H'
                        try clear c1
                        try clear p2
                        try clear c5
                        try clear c6
                        try clear p6
                        try clear c7
                        try clear c8
                        try clear c9
                        try clear c10
                        try clear c17
                        try clear c52
                        try clear c53
                        try clear c53b0
                        try clear c53b1
                        try clear c55
                        try clear c55b0
                        try clear c55b1
                        try clear c56
                        try clear c56b0
                        try clear c56b1
                        try clear c57
                        try clear c57b0
                        try clear c57b1
                        try clear c58
                        try clear c58b0
                        try clear c58b1
                        try clear c58b2
                        try clear c59
                        try clear c60
                        try clear c62
                        try clear c64
                        try clear c64b0
                        try clear c64b1
                        try clear p64
                        try clear c65
                        try clear c65b0
                        try clear c65b1
                        try clear c66
                        try clear c67
                        try clear c69
                        try clear c71
                        try clear c72
                        try clear c74
                        try clear c76
                        try clear c76b0
                        try clear c76b1
                        try clear c77
                        try clear c77b0
                        try clear c77b1
                        try clear c78
                        try clear c79
                        try clear c81
                        try clear c83
                        try clear c84
                        try clear c86
                        try clear c88
                        try clear c89
                        try clear c91
                        try clear c93
                        try clear c94
                        try clear c96
                        try clear c98
                        try clear c99
                        try clear c101
                        try clear c103
                        try clear c105
                        try clear c106
                        try clear hcz100_0
                        try clear hcz100_1
                        try clear hcz100_2
                        try clear hcz100_3
                        try clear hcz100_4
                        try clear hcz100_5
                        try clear hcz100_6
                        try clear hcz100_7
                        try clear hcz102_0
                        try clear hcz102_1
                        try clear hcz102_2
                        try clear hcz102_3
                        try clear hcz102_4
                        try clear hcz102_5
                        try clear hcz102_6
                        try clear hcz102_7
                        try clear hcz107_0
                        try clear hcz107_1
                        try clear hcz107_2
                        try clear hcz107_3
                        try clear hcz107_4
                        try clear hcz107_5
                        try clear hcz107_6
                        try clear hcz107_7
                        try clear hcz41_0
                        try clear hcz41_1
                        try clear hcz41_2
                        try clear hcz41_3
                        try clear hcz41_4
                        try clear hcz41_5
                        try clear hcz41_6
                        try clear hcz41_7
                        try clear hcz44_0
                        try clear hcz44_1
                        try clear hcz44_2
                        try clear hcz44_3
                        try clear hcz44_4
                        try clear hcz44_5
                        try clear hcz44_6
                        try clear hcz44_7
                        try clear hcz46_0
                        try clear hcz46_1
                        try clear hcz46_2
                        try clear hcz46_3
                        try clear hcz46_4
                        try clear hcz46_5
                        try clear hcz46_6
                        try clear hcz46_7
                        try clear hcz49_0
                        try clear hcz49_1
                        try clear hcz49_2
                        try clear hcz49_3
                        try clear hcz49_4
                        try clear hcz49_5
                        try clear hcz49_6
                        try clear hcz49_7
                        try clear hcz51_0
                        try clear hcz51_1
                        try clear hcz51_2
                        try clear hcz51_3
                        try clear hcz51_4
                        try clear hcz51_5
                        try clear hcz51_6
                        try clear hcz51_7
                        try clear hcz61_0
                        try clear hcz61_1
                        try clear hcz61_2
                        try clear hcz61_3
                        try clear hcz61_4
                        try clear hcz61_5
                        try clear hcz61_6
                        try clear hcz61_7
                        try clear hcz63_0
                        try clear hcz63_1
                        try clear hcz63_2
                        try clear hcz63_3
                        try clear hcz63_4
                        try clear hcz63_5
                        try clear hcz63_6
                        try clear hcz63_7
                        try clear hcz68_0
                        try clear hcz68_1
                        try clear hcz68_2
                        try clear hcz68_3
                        try clear hcz68_4
                        try clear hcz68_5
                        try clear hcz68_6
                        try clear hcz68_7
                        try clear hcz70_0
                        try clear hcz70_1
                        try clear hcz70_2
                        try clear hcz70_3
                        try clear hcz70_4
                        try clear hcz70_5
                        try clear hcz70_6
                        try clear hcz70_7
                        try clear hcz73_0
                        try clear hcz73_1
                        try clear hcz73_2
                        try clear hcz73_3
                        try clear hcz73_4
                        try clear hcz73_5
                        try clear hcz73_6
                        try clear hcz73_7
                        try clear hcz75_0
                        try clear hcz75_1
                        try clear hcz75_2
                        try clear hcz75_3
                        try clear hcz75_4
                        try clear hcz75_5
                        try clear hcz75_6
                        try clear hcz75_7
                        try clear hcz80_0
                        try clear hcz80_1
                        try clear hcz80_2
                        try clear hcz80_3
                        try clear hcz80_4
                        try clear hcz80_5
                        try clear hcz80_6
                        try clear hcz80_7
                        try clear hcz82_0
                        try clear hcz82_1
                        try clear hcz82_2
                        try clear hcz82_3
                        try clear hcz82_4
                        try clear hcz82_5
                        try clear hcz82_6
                        try clear hcz82_7
                        try clear hcz85_0
                        try clear hcz85_1
                        try clear hcz85_2
                        try clear hcz85_3
                        try clear hcz85_4
                        try clear hcz85_5
                        try clear hcz85_6
                        try clear hcz85_7
                        try clear hcz87_0
                        try clear hcz87_1
                        try clear hcz87_2
                        try clear hcz87_3
                        try clear hcz87_4
                        try clear hcz87_5
                        try clear hcz87_6
                        try clear hcz87_7
                        try clear hcz90_0
                        try clear hcz90_1
                        try clear hcz90_2
                        try clear hcz90_3
                        try clear hcz90_4
                        try clear hcz90_5
                        try clear hcz90_6
                        try clear hcz90_7
                        try clear hcz92_0
                        try clear hcz92_1
                        try clear hcz92_2
                        try clear hcz92_3
                        try clear hcz92_4
                        try clear hcz92_5
                        try clear hcz92_6
                        try clear hcz92_7
                        try clear hcz95_0
                        try clear hcz95_1
                        try clear hcz95_2
                        try clear hcz95_3
                        try clear hcz95_4
                        try clear hcz95_5
                        try clear hcz95_6
                        try clear hcz95_7
                        try clear hcz97_0
                        try clear hcz97_1
                        try clear hcz97_2
                        try clear hcz97_3
                        try clear hcz97_4
                        try clear hcz97_5
                        try clear hcz97_6
                        try clear hcz97_7
                        try clear hfz100_0
                        try clear hfz100_1
                        try clear hfz100_2
                        try clear hfz100_3
                        try clear hfz100_4
                        try clear hfz100_5
                        try clear hfz100_6
                        try clear hfz100_7
                        try clear hfz102_0
                        try clear hfz102_1
                        try clear hfz102_2
                        try clear hfz102_3
                        try clear hfz102_4
                        try clear hfz102_5
                        try clear hfz102_6
                        try clear hfz102_7
                        try clear hfz107_0
                        try clear hfz107_1
                        try clear hfz107_2
                        try clear hfz107_3
                        try clear hfz107_4
                        try clear hfz107_5
                        try clear hfz107_6
                        try clear hfz107_7
                        try clear hfz12_0
                        try clear hfz12_1
                        try clear hfz12_2
                        try clear hfz12_3
                        try clear hfz12_4
                        try clear hfz12_5
                        try clear hfz12_6
                        try clear hfz12_7
                        try clear hfz16_0
                        try clear hfz16_1
                        try clear hfz16_2
                        try clear hfz16_3
                        try clear hfz16_4
                        try clear hfz16_5
                        try clear hfz16_6
                        try clear hfz16_7
                        try clear hfz21_0
                        try clear hfz21_1
                        try clear hfz21_2
                        try clear hfz21_3
                        try clear hfz21_4
                        try clear hfz21_5
                        try clear hfz21_6
                        try clear hfz21_7
                        try clear hfz26_0
                        try clear hfz26_1
                        try clear hfz26_2
                        try clear hfz26_3
                        try clear hfz26_4
                        try clear hfz26_5
                        try clear hfz26_6
                        try clear hfz26_7
                        try clear hfz28_0
                        try clear hfz28_1
                        try clear hfz28_2
                        try clear hfz28_3
                        try clear hfz28_4
                        try clear hfz28_5
                        try clear hfz28_6
                        try clear hfz28_7
                        try clear hfz34_0
                        try clear hfz34_1
                        try clear hfz34_2
                        try clear hfz34_3
                        try clear hfz34_4
                        try clear hfz34_5
                        try clear hfz34_6
                        try clear hfz34_7
                        try clear hfz36_0
                        try clear hfz36_1
                        try clear hfz36_2
                        try clear hfz36_3
                        try clear hfz36_4
                        try clear hfz36_5
                        try clear hfz36_6
                        try clear hfz36_7
                        try clear hfz39_0
                        try clear hfz39_1
                        try clear hfz39_2
                        try clear hfz39_3
                        try clear hfz39_4
                        try clear hfz39_5
                        try clear hfz39_6
                        try clear hfz39_7
                        try clear hfz41_0
                        try clear hfz41_1
                        try clear hfz41_2
                        try clear hfz41_3
                        try clear hfz41_4
                        try clear hfz41_5
                        try clear hfz41_6
                        try clear hfz41_7
                        try clear hfz44_0
                        try clear hfz44_1
                        try clear hfz44_2
                        try clear hfz44_3
                        try clear hfz44_4
                        try clear hfz44_5
                        try clear hfz44_6
                        try clear hfz44_7
                        try clear hfz46_0
                        try clear hfz46_1
                        try clear hfz46_2
                        try clear hfz46_3
                        try clear hfz46_4
                        try clear hfz46_5
                        try clear hfz46_6
                        try clear hfz46_7
                        try clear hfz49_0
                        try clear hfz49_1
                        try clear hfz49_2
                        try clear hfz49_3
                        try clear hfz49_4
                        try clear hfz49_5
                        try clear hfz49_6
                        try clear hfz49_7
                        try clear hfz51_0
                        try clear hfz51_1
                        try clear hfz51_2
                        try clear hfz51_3
                        try clear hfz51_4
                        try clear hfz51_5
                        try clear hfz51_6
                        try clear hfz51_7
                        try clear hfz61_0
                        try clear hfz61_1
                        try clear hfz61_2
                        try clear hfz61_3
                        try clear hfz61_4
                        try clear hfz61_5
                        try clear hfz61_6
                        try clear hfz61_7
                        try clear hfz63_0
                        try clear hfz63_1
                        try clear hfz63_2
                        try clear hfz63_3
                        try clear hfz63_4
                        try clear hfz63_5
                        try clear hfz63_6
                        try clear hfz63_7
                        try clear hfz68_0
                        try clear hfz68_1
                        try clear hfz68_2
                        try clear hfz68_3
                        try clear hfz68_4
                        try clear hfz68_5
                        try clear hfz68_6
                        try clear hfz68_7
                        try clear hfz70_0
                        try clear hfz70_1
                        try clear hfz70_2
                        try clear hfz70_3
                        try clear hfz70_4
                        try clear hfz70_5
                        try clear hfz70_6
                        try clear hfz70_7
                        try clear hfz73_0
                        try clear hfz73_1
                        try clear hfz73_2
                        try clear hfz73_3
                        try clear hfz73_4
                        try clear hfz73_5
                        try clear hfz73_6
                        try clear hfz73_7
                        try clear hfz75_0
                        try clear hfz75_1
                        try clear hfz75_2
                        try clear hfz75_3
                        try clear hfz75_4
                        try clear hfz75_5
                        try clear hfz75_6
                        try clear hfz75_7
                        try clear hfz80_0
                        try clear hfz80_1
                        try clear hfz80_2
                        try clear hfz80_3
                        try clear hfz80_4
                        try clear hfz80_5
                        try clear hfz80_6
                        try clear hfz80_7
                        try clear hfz82_0
                        try clear hfz82_1
                        try clear hfz82_2
                        try clear hfz82_3
                        try clear hfz82_4
                        try clear hfz82_5
                        try clear hfz82_6
                        try clear hfz82_7
                        try clear hfz85_0
                        try clear hfz85_1
                        try clear hfz85_2
                        try clear hfz85_3
                        try clear hfz85_4
                        try clear hfz85_5
                        try clear hfz85_6
                        try clear hfz85_7
                        try clear hfz87_0
                        try clear hfz87_1
                        try clear hfz87_2
                        try clear hfz87_3
                        try clear hfz87_4
                        try clear hfz87_5
                        try clear hfz87_6
                        try clear hfz87_7
                        try clear hfz90_0
                        try clear hfz90_1
                        try clear hfz90_2
                        try clear hfz90_3
                        try clear hfz90_4
                        try clear hfz90_5
                        try clear hfz90_6
                        try clear hfz90_7
                        try clear hfz92_0
                        try clear hfz92_1
                        try clear hfz92_2
                        try clear hfz92_3
                        try clear hfz92_4
                        try clear hfz92_5
                        try clear hfz92_6
                        try clear hfz92_7
                        try clear hfz95_0
                        try clear hfz95_1
                        try clear hfz95_2
                        try clear hfz95_3
                        try clear hfz95_4
                        try clear hfz95_5
                        try clear hfz95_6
                        try clear hfz95_7
                        try clear hfz97_0
                        try clear hfz97_1
                        try clear hfz97_2
                        try clear hfz97_3
                        try clear hfz97_4
                        try clear hfz97_5
                        try clear hfz97_6
                        try clear hfz97_7
                        try clear p2
                        try clear p6
                        try clear p64
                        obtain ⟨x18_3, rfl, HA, HK3, HO_17, BK199, BK211, BK223, HB⟩ := hrel
                        cases gk with
                        | zero => exact absurd HA.out (by simp [sundiallaw08_OperandParts.l0])
                        | succ k3 =>
                          have H := HA.out
                          clear HA
                          simp only [sundiallaw08_OperandParts.l0] at H
                          by_cases c109 : x18_3 < (t225.length : Int)
                          · rw [if_pos c109] at H
                            try first | (with_reducible exact absurd H (sundiallaw08_OperandParts.j0_no ..)) | (with_reducible exact absurd H (sundiallaw08_OperandParts.j1_no ..)) | (with_reducible exact absurd H (sundiallaw08_OperandParts.some_no))
                            all_goals
                              have c109b0 : decide (x18_3 < (t225.length : Int)) = true := decide_eq_true c109
                              clear c109
                              by_cases c110 : 0 ≤ x18_3
                              · rw [if_pos c110] at H
                                try first | (with_reducible exact absurd H (sundiallaw08_OperandParts.j0_no ..)) | (with_reducible exact absurd H (sundiallaw08_OperandParts.j1_no ..)) | (with_reducible exact absurd H (sundiallaw08_OperandParts.some_no))
                                all_goals
                                  have c110b0 : decide (0 ≤ x18_3) = true := decide_eq_true c110
                                  clear c110
                                  by_cases c111 : (rd t225 x18_3) < 0
                                  · rw [if_pos c111] at H
                                    try first | (with_reducible exact absurd H (sundiallaw08_OperandParts.j0_no ..)) | (with_reducible exact absurd H (sundiallaw08_OperandParts.j1_no ..)) | (with_reducible exact absurd H (sundiallaw08_OperandParts.some_no))
                                    all_goals
                                      have c111b0 : decide ((rd t225 x18_3) < 0) = true := decide_eq_true c111
                                      clear c111
                                      try (exact absurd H sundiallaw08_OperandParts.some_no)
                                      all_goals
                                        obtain rfl := Option.some.inj H
                                        obtain ⟨Ao112, co112, eo112⟩ := Kd.R_slice HO_17.out
                                        subst eo112
                                        have p228 : 0 ≤ (x18_3 : Int) := of_decide_eq_true (by first | (with_reducible assumption) | assumption)
                                        have q228 : x18_3 < (t225.length : Int) := of_decide_eq_true (by first | (with_reducible assumption) | assumption)
                                        obtain ⟨ad228, e228, hx228_0⟩ := Kd.at_int (Kd.R_reads' HO_17.out).2.2 x18_3 p228 q228
                                        cases e228
                                        replace p228 := eq_true p228
                                        replace q228 := eq_true q228
                                        go_wp2
                                        go_ret
                                        exact ⟨by first | rfl | (simp [errW_none, errW_some] <;> rfl) | (simp [*, errW_none, errW_some] <;> rfl), by repeat (first | (with_reducible first | exact HB.out | apply below_alloc | apply pw_below_drewN | apply below_drew1 | refine below_set ?_ GE199.out | refine below_set ?_ GE211.out | refine below_set ?_ GE223.out) | exact HB.out)⟩
                                  · rw [if_neg c111] at H
                                    try first | (with_reducible exact absurd H (sundiallaw08_OperandParts.j0_no ..)) | (with_reducible exact absurd H (sundiallaw08_OperandParts.j1_no ..)) | (with_reducible exact absurd H (sundiallaw08_OperandParts.some_no))
                                    all_goals
                                      have c111b0 : decide ((rd t225 x18_3) < 0) = false := decide_eq_false c111
                                      clear c111
                                      by_cases c113 : (rd t225 x18_3) > 15
                                      · rw [if_pos c113] at H
                                        try first | (with_reducible exact absurd H (sundiallaw08_OperandParts.j0_no ..)) | (with_reducible exact absurd H (sundiallaw08_OperandParts.j1_no ..)) | (with_reducible exact absurd H (sundiallaw08_OperandParts.some_no))
                                        all_goals
                                          have c113b0 : decide (15 < (rd t225 x18_3)) = true := decide_eq_true c113
                                          clear c113
                                          try (exact absurd H sundiallaw08_OperandParts.some_no)
                                          all_goals
                                            obtain rfl := Option.some.inj H
                                            obtain ⟨Ao114, co114, eo114⟩ := Kd.R_slice HO_17.out
                                            subst eo114
                                            have p228 : 0 ≤ (x18_3 : Int) := of_decide_eq_true (by first | (with_reducible assumption) | assumption)
                                            have q228 : x18_3 < (t225.length : Int) := of_decide_eq_true (by first | (with_reducible assumption) | assumption)
                                            obtain ⟨ad228, e228, hx228_0⟩ := Kd.at_int (Kd.R_reads' HO_17.out).2.2 x18_3 p228 q228
                                            cases e228
                                            replace p228 := eq_true p228
                                            replace q228 := eq_true q228
                                            have p229 : 0 ≤ (x18_3 : Int) := of_decide_eq_true (by first | (with_reducible assumption) | assumption)
                                            have q229 : x18_3 < (t225.length : Int) := of_decide_eq_true (by first | (with_reducible assumption) | assumption)
                                            obtain ⟨ad229, e229, hx229_0⟩ := Kd.at_int (Kd.R_reads' HO_17.out).2.2 x18_3 p229 q229
                                            obtain rfl : ad228 = ad229 := (by injection e229)
                                            replace p229 := eq_true p229
                                            replace q229 := eq_true q229
                                            go_wp2
                                            go_ret
                                            exact ⟨by first | rfl | (simp [errW_none, errW_some] <;> rfl) | (simp [*, errW_none, errW_some] <;> rfl), by repeat (first | (with_reducible first | exact HB.out | apply below_alloc | apply pw_below_drewN | apply below_drew1 | refine below_set ?_ GE199.out | refine below_set ?_ GE211.out | refine below_set ?_ GE223.out) | exact HB.out)⟩
                                      · rw [if_neg c113] at H
                                        try first | (with_reducible exact absurd H (sundiallaw08_OperandParts.j0_no ..)) | (with_reducible exact absurd H (sundiallaw08_OperandParts.j1_no ..)) | (with_reducible exact absurd H (sundiallaw08_OperandParts.some_no))
                                        all_goals
                                          have c113b0 : decide (15 < (rd t225 x18_3)) = false := decide_eq_false c113
                                          clear c113
                                          have H' := Aside0.mk H
                                          clear H
                                          obtain ⟨Ao115, co115, eo115⟩ := Kd.R_slice HO_17.out
                                          subst eo115
                                          have p228 : 0 ≤ (x18_3 : Int) := of_decide_eq_true (by first | (with_reducible assumption) | assumption)
                                          have q228 : x18_3 < (t225.length : Int) := of_decide_eq_true (by first | (with_reducible assumption) | assumption)
                                          obtain ⟨ad228, e228, hx228_0⟩ := Kd.at_int (Kd.R_reads' HO_17.out).2.2 x18_3 p228 q228
                                          cases e228
                                          replace p228 := eq_true p228
                                          replace q228 := eq_true q228
                                          have p229 : 0 ≤ (x18_3 : Int) := of_decide_eq_true (by first | (with_reducible assumption) | assumption)
                                          have q229 : x18_3 < (t225.length : Int) := of_decide_eq_true (by first | (with_reducible assumption) | assumption)
                                          obtain ⟨ad229, e229, hx229_0⟩ := Kd.at_int (Kd.R_reads' HO_17.out).2.2 x18_3 p229 q229
                                          obtain rfl : ad228 = ad229 := (by injection e229)
                                          replace p229 := eq_true p229
                                          replace q229 := eq_true q229
                                          go_wp2
                                          go_roundg k3
                                          case measure => have := HJ8.out; have := HJ53.out; have := HK3.out; omega
                                          case rel => exact ⟨(wrap64 (x18_3 + 1)), (by first | rfl | (simp; done) | (simp [*]; done)), H', ⟨by have := HJ8.out; have := HJ53.out; have := HK3.out; omega⟩, ⟨by (with_reducible repeat (first | apply Kd.R_alloc | apply Kd.R_drewN | apply Kd.R_drew)); exact HO_17.out⟩, ⟨by (with_reducible repeat (first | refine blk_drewN ?_ _ | refine blk_drew ?_ | refine blk_alloc ?_ _)); exact BK199.out⟩, ⟨by (with_reducible repeat (first | refine blk_drewN ?_ _ | refine blk_drew ?_ | refine blk_alloc ?_ _)); exact BK211.out⟩, ⟨by (with_reducible repeat (first | refine blk_drewN ?_ _ | refine blk_drew ?_ | refine blk_alloc ?_ _)); exact BK223.out⟩, ⟨by repeat (first | (with_reducible first | exact HB.out | apply below_alloc | apply pw_below_drewN | apply below_drew1 | refine below_set ?_ GE199.out | refine below_set ?_ GE211.out | refine below_set ?_ GE223.out) | exact HB.out)⟩⟩
                              · rw [if_neg c110] at H
                                try first | (with_reducible exact absurd H (sundiallaw08_OperandParts.j0_no ..)) | (with_reducible exact absurd H (sundiallaw08_OperandParts.j1_no ..)) | (with_reducible exact absurd H (sundiallaw08_OperandParts.some_no))
                                all_goals
                                  exact absurd H (by simp)
                          · rw [if_neg c109] at H
                            try first | (with_reducible exact absurd H (sundiallaw08_OperandParts.j0_no ..)) | (with_reducible exact absurd H (sundiallaw08_OperandParts.j1_no ..)) | (with_reducible exact absurd H (sundiallaw08_OperandParts.some_no))
                            all_goals
                              have c109b0 : decide (x18_3 < (t225.length : Int)) = false := decide_eq_false c109
                              clear c109
                              by_cases c116 : t192 = t216
                              · rw [if_pos c116] at H
                                try first | (with_reducible exact absurd H (sundiallaw08_OperandParts.j0_no ..)) | (with_reducible exact absurd H (sundiallaw08_OperandParts.j1_no ..)) | (with_reducible exact absurd H (sundiallaw08_OperandParts.some_no))
                                all_goals
                                  have c116b0 : (t192 == t216) = true := beq_iff_eq.mpr c116
                                  have c116b1 : (t192 != t216) = false := bne_eq_false_iff_eq.mpr c116
                                  clear c116
                                  by_cases c117 : (t225.length : Int) ≤ 2
                                  · rw [if_pos c117] at H
                                    try first | (with_reducible exact absurd H (sundiallaw08_OperandParts.j0_no ..)) | (with_reducible exact absurd H (sundiallaw08_OperandParts.j1_no ..)) | (with_reducible exact absurd H (sundiallaw08_OperandParts.some_no))
                                    all_goals
                                      have c117b0 : decide ((t225.length : Int) ≤ 2) = true := decide_eq_true c117
                                      have c117b1 : decide (t225.length ≤ 2) = true := decide_eq_true (by omega)
                                      clear c117
                                      replace H := Option.bind_eq_some_iff.mp H
                                      obtain ⟨t230, A1180, H⟩ := H
                                      replace H : (some t230) = some true := H
                                      have A118 := Aside0.mk A1180
                                      clear A1180
                                      try (exact absurd H sundiallaw08_OperandParts.some_no)
                                      all_goals
                                        obtain rfl := Option.some.inj H
                                        obtain ⟨Ao119, co119, eo119⟩ := Kd.R_slice HO_17.out
                                        subst eo119
                                        have hnb120 := NB199_211.out
                                        have hnc120 := NB211_199.out
                                        have hnb121 := NB199_223.out
                                        have hnc121 := NB223_199.out
                                        have hcz122_0 : wr.cell? ⟨gb199, 0, none⟩ = some (.int .u8 t189) := (blk_cell BK199.out 0).trans rfl
                                        have hcz122_1 : wr.cell? ⟨gb199, 1, none⟩ = some (.int .i64 t190) := (blk_cell BK199.out 1).trans rfl
                                        have hcz122_2 : wr.cell? ⟨gb199, 2, none⟩ = some (.int .i64 t191) := (blk_cell BK199.out 2).trans rfl
                                        have hcz122_3 : wr.cell? ⟨gb199, 3, none⟩ = some (.int .i64 t192) := (blk_cell BK199.out 3).trans rfl
                                        have hcz122_4 : wr.cell? ⟨gb199, 4, none⟩ = some (.int .i64 t193) := (blk_cell BK199.out 4).trans rfl
                                        have hcz122_5 : wr.cell? ⟨gb199, 5, none⟩ = some (.int .i64 t194) := (blk_cell BK199.out 5).trans rfl
                                        have hcz122_6 : wr.cell? ⟨gb199, 6, none⟩ = some (.bool t195) := (blk_cell BK199.out 6).trans rfl
                                        have hcz122_7 : wr.cell? ⟨gb199, 7, none⟩ = some (.int .i64 t196) := (blk_cell BK199.out 7).trans rfl
                                        have hfz122_0 := blk_frozen BK199.out 0
                                        have hfz122_1 := blk_frozen BK199.out 1
                                        have hfz122_2 := blk_frozen BK199.out 2
                                        have hfz122_3 := blk_frozen BK199.out 3
                                        have hfz122_4 := blk_frozen BK199.out 4
                                        have hfz122_5 := blk_frozen BK199.out 5
                                        have hfz122_6 := blk_frozen BK199.out 6
                                        have hfz122_7 := blk_frozen BK199.out 7
                                        have hnb123 := NB223_211.out
                                        have hnc123 := NB211_223.out
                                        have hcz124_0 : wr.cell? ⟨gb223, 0, none⟩ = some (.int .u8 t213) := (blk_cell BK223.out 0).trans rfl
                                        have hcz124_1 : wr.cell? ⟨gb223, 1, none⟩ = some (.int .i64 t214) := (blk_cell BK223.out 1).trans rfl
                                        have hcz124_2 : wr.cell? ⟨gb223, 2, none⟩ = some (.int .i64 t215) := (blk_cell BK223.out 2).trans rfl
                                        have hcz124_3 : wr.cell? ⟨gb223, 3, none⟩ = some (.int .i64 t216) := (blk_cell BK223.out 3).trans rfl
                                        have hcz124_4 : wr.cell? ⟨gb223, 4, none⟩ = some (.int .i64 t217) := (blk_cell BK223.out 4).trans rfl
                                        have hcz124_5 : wr.cell? ⟨gb223, 5, none⟩ = some (.int .i64 t218) := (blk_cell BK223.out 5).trans rfl
                                        have hcz124_6 : wr.cell? ⟨gb223, 6, none⟩ = some (.bool t219) := (blk_cell BK223.out 6).trans rfl
                                        have hcz124_7 : wr.cell? ⟨gb223, 7, none⟩ = some (.int .i64 t220) := (blk_cell BK223.out 7).trans rfl
                                        have hfz124_0 := blk_frozen BK223.out 0
                                        have hfz124_1 := blk_frozen BK223.out 1
                                        have hfz124_2 := blk_frozen BK223.out 2
                                        have hfz124_3 := blk_frozen BK223.out 3
                                        have hfz124_4 := blk_frozen BK223.out 4
                                        have hfz124_5 := blk_frozen BK223.out 5
                                        have hfz124_6 := blk_frozen BK223.out 6
                                        have hfz124_7 := blk_frozen BK223.out 7
                                        go_wp2_with (first | (go_at_call 8; (with_reducible refine (sundiallaw08_wakes.calls true _ A118.out).mono ?_); rintro e w125 ⟨rfl, hb⟩; have n0_ := Aside0.mk (Kd.R_below (by (with_reducible repeat (first | apply Kd.R_alloc | apply Kd.R_drewN | apply Kd.R_drew)); exact HO_17.out) hb); have n1_ := Aside0.mk (blk_below (g := gb199) (o := .cells #[.int .u8 t189, .int .i64 t190, .int .i64 t191, .int .i64 t192, .int .i64 t193, .int .i64 t194, .bool t195, .int .i64 t196] 23 (0, 0)) (by (with_reducible repeat (first | refine blk_drewN ?_ _ | refine blk_drew ?_ | refine blk_alloc ?_ _)); exact BK199.out) hb); have n2_ := Aside0.mk (blk_below (g := gb211) (o := .cells #[.int .u8 t201, .int .i64 t202, .int .i64 t203, .int .i64 t204, .int .i64 t205, .int .i64 t206, .bool t207, .int .i64 t208] 23 (0, 0)) (by (with_reducible repeat (first | refine blk_drewN ?_ _ | refine blk_drew ?_ | refine blk_alloc ?_ _)); exact BK211.out) hb); have n3_ := Aside0.mk (blk_below (g := gb223) (o := .cells #[.int .u8 t213, .int .i64 t214, .int .i64 t215, .int .i64 t216, .int .i64 t217, .int .i64 t218, .bool t219, .int .i64 t220] 23 (0, 0)) (by (with_reducible repeat (first | refine blk_drewN ?_ _ | refine blk_drew ?_ | refine blk_alloc ?_ _)); exact BK223.out) hb); have n4_ := Aside0.mk (below_step (by repeat (first | (with_reducible first | exact HB.out | apply below_alloc | apply pw_below_drewN | apply below_drew1 | refine below_set ?_ GE199.out | refine below_set ?_ GE211.out | refine below_set ?_ GE223.out) | exact HB.out)) hb); clear HO_17; clear BK199; clear BK211; clear BK223; clear HB; have HO_17 := n0_; have BK199 := n1_; have BK211 := n2_; have BK223 := n3_; have HB := n4_; clear n0_ n1_ n2_ n3_ n4_; (try clear hb); (try clear hb2); (try clear hk); (try clear hi)))
                                        go_ret
                                        exact ⟨by first | rfl | (simp [errW_none, errW_some] <;> rfl) | (simp [*, errW_none, errW_some] <;> rfl), by repeat (first | (with_reducible first | exact HB.out | apply below_alloc | apply pw_below_drewN | apply below_drew1 | refine below_set ?_ GE199.out | refine below_set ?_ GE211.out | refine below_set ?_ GE223.out) | exact HB.out)⟩
                                  · rw [if_neg c117] at H
                                    try first | (with_reducible exact absurd H (sundiallaw08_OperandParts.j0_no ..)) | (with_reducible exact absurd H (sundiallaw08_OperandParts.j1_no ..)) | (with_reducible exact absurd H (sundiallaw08_OperandParts.some_no))
                                    all_goals
                                      have c117b0 : decide ((t225.length : Int) ≤ 2) = false := decide_eq_false c117
                                      have c117b1 : decide (t225.length ≤ 2) = false := decide_eq_false (by omega)
                                      clear c117
                                      try (exact absurd H sundiallaw08_OperandParts.some_no)
                                      all_goals
                                        obtain rfl := Option.some.inj H
                                        obtain ⟨Ao126, co126, eo126⟩ := Kd.R_slice HO_17.out
                                        subst eo126
                                        have hnb127 := NB199_211.out
                                        have hnc127 := NB211_199.out
                                        have hnb128 := NB199_223.out
                                        have hnc128 := NB223_199.out
                                        have hcz129_0 : wr.cell? ⟨gb199, 0, none⟩ = some (.int .u8 t189) := (blk_cell BK199.out 0).trans rfl
                                        have hcz129_1 : wr.cell? ⟨gb199, 1, none⟩ = some (.int .i64 t190) := (blk_cell BK199.out 1).trans rfl
                                        have hcz129_2 : wr.cell? ⟨gb199, 2, none⟩ = some (.int .i64 t191) := (blk_cell BK199.out 2).trans rfl
                                        have hcz129_3 : wr.cell? ⟨gb199, 3, none⟩ = some (.int .i64 t192) := (blk_cell BK199.out 3).trans rfl
                                        have hcz129_4 : wr.cell? ⟨gb199, 4, none⟩ = some (.int .i64 t193) := (blk_cell BK199.out 4).trans rfl
                                        have hcz129_5 : wr.cell? ⟨gb199, 5, none⟩ = some (.int .i64 t194) := (blk_cell BK199.out 5).trans rfl
                                        have hcz129_6 : wr.cell? ⟨gb199, 6, none⟩ = some (.bool t195) := (blk_cell BK199.out 6).trans rfl
                                        have hcz129_7 : wr.cell? ⟨gb199, 7, none⟩ = some (.int .i64 t196) := (blk_cell BK199.out 7).trans rfl
                                        have hfz129_0 := blk_frozen BK199.out 0
                                        have hfz129_1 := blk_frozen BK199.out 1
                                        have hfz129_2 := blk_frozen BK199.out 2
                                        have hfz129_3 := blk_frozen BK199.out 3
                                        have hfz129_4 := blk_frozen BK199.out 4
                                        have hfz129_5 := blk_frozen BK199.out 5
                                        have hfz129_6 := blk_frozen BK199.out 6
                                        have hfz129_7 := blk_frozen BK199.out 7
                                        have hnb130 := NB223_211.out
                                        have hnc130 := NB211_223.out
                                        have hcz131_0 : wr.cell? ⟨gb223, 0, none⟩ = some (.int .u8 t213) := (blk_cell BK223.out 0).trans rfl
                                        have hcz131_1 : wr.cell? ⟨gb223, 1, none⟩ = some (.int .i64 t214) := (blk_cell BK223.out 1).trans rfl
                                        have hcz131_2 : wr.cell? ⟨gb223, 2, none⟩ = some (.int .i64 t215) := (blk_cell BK223.out 2).trans rfl
                                        have hcz131_3 : wr.cell? ⟨gb223, 3, none⟩ = some (.int .i64 t216) := (blk_cell BK223.out 3).trans rfl
                                        have hcz131_4 : wr.cell? ⟨gb223, 4, none⟩ = some (.int .i64 t217) := (blk_cell BK223.out 4).trans rfl
                                        have hcz131_5 : wr.cell? ⟨gb223, 5, none⟩ = some (.int .i64 t218) := (blk_cell BK223.out 5).trans rfl
                                        have hcz131_6 : wr.cell? ⟨gb223, 6, none⟩ = some (.bool t219) := (blk_cell BK223.out 6).trans rfl
                                        have hcz131_7 : wr.cell? ⟨gb223, 7, none⟩ = some (.int .i64 t220) := (blk_cell BK223.out 7).trans rfl
                                        have hfz131_0 := blk_frozen BK223.out 0
                                        have hfz131_1 := blk_frozen BK223.out 1
                                        have hfz131_2 := blk_frozen BK223.out 2
                                        have hfz131_3 := blk_frozen BK223.out 3
                                        have hfz131_4 := blk_frozen BK223.out 4
                                        have hfz131_5 := blk_frozen BK223.out 5
                                        have hfz131_6 := blk_frozen BK223.out 6
                                        have hfz131_7 := blk_frozen BK223.out 7
                                        go_wp2
                                        go_ret
                                        exact ⟨by first | rfl | (simp [errW_none, errW_some] <;> rfl) | (simp [*, errW_none, errW_some] <;> rfl), by repeat (first | (with_reducible first | exact HB.out | apply below_alloc | apply pw_below_drewN | apply below_drew1 | refine below_set ?_ GE199.out | refine below_set ?_ GE211.out | refine below_set ?_ GE223.out) | exact HB.out)⟩
                              · rw [if_neg c116] at H
                                try first | (with_reducible exact absurd H (sundiallaw08_OperandParts.j0_no ..)) | (with_reducible exact absurd H (sundiallaw08_OperandParts.j1_no ..)) | (with_reducible exact absurd H (sundiallaw08_OperandParts.some_no))
                                all_goals
                                  have c116b0 : (t192 == t216) = false := beq_eq_false_iff_ne.mpr c116
                                  have c116b1 : (t192 != t216) = true := bne_iff_ne.mpr c116
                                  by_cases c132 : t192 = (wrap64 (t216 + 8))
                                  · rw [if_pos c132] at H
                                    try first | (with_reducible exact absurd H (sundiallaw08_OperandParts.j0_no ..)) | (with_reducible exact absurd H (sundiallaw08_OperandParts.j1_no ..)) | (with_reducible exact absurd H (sundiallaw08_OperandParts.some_no))
                                    all_goals
                                      have c132b0 : (t192 == (wrap64 (t216 + 8))) = true := beq_iff_eq.mpr c132
                                      have c132b1 : (t192 != (wrap64 (t216 + 8))) = false := bne_eq_false_iff_eq.mpr c132
                                      clear c132
                                      by_cases c133 : (t225.length : Int) ≤ 2
                                      · rw [if_pos c133] at H
                                        try first | (with_reducible exact absurd H (sundiallaw08_OperandParts.j0_no ..)) | (with_reducible exact absurd H (sundiallaw08_OperandParts.j1_no ..)) | (with_reducible exact absurd H (sundiallaw08_OperandParts.some_no))
                                        all_goals
                                          have c133b0 : decide ((t225.length : Int) ≤ 2) = true := decide_eq_true c133
                                          have c133b1 : decide (t225.length ≤ 2) = true := decide_eq_true (by omega)
                                          clear c133
                                          replace H := Option.bind_eq_some_iff.mp H
                                          obtain ⟨t231, A1340, H⟩ := H
                                          replace H : (some t231) = some true := H
                                          have A134 := Aside0.mk A1340
                                          clear A1340
                                          try (exact absurd H sundiallaw08_OperandParts.some_no)
                                          all_goals
                                            obtain rfl := Option.some.inj H
                                            obtain ⟨Ao135, co135, eo135⟩ := Kd.R_slice HO_17.out
                                            subst eo135
                                            have hnb136 := NB199_211.out
                                            have hnc136 := NB211_199.out
                                            have hnb137 := NB199_223.out
                                            have hnc137 := NB223_199.out
                                            have hcz138_0 : wr.cell? ⟨gb199, 0, none⟩ = some (.int .u8 t189) := (blk_cell BK199.out 0).trans rfl
                                            have hcz138_1 : wr.cell? ⟨gb199, 1, none⟩ = some (.int .i64 t190) := (blk_cell BK199.out 1).trans rfl
                                            have hcz138_2 : wr.cell? ⟨gb199, 2, none⟩ = some (.int .i64 t191) := (blk_cell BK199.out 2).trans rfl
                                            have hcz138_3 : wr.cell? ⟨gb199, 3, none⟩ = some (.int .i64 t192) := (blk_cell BK199.out 3).trans rfl
                                            have hcz138_4 : wr.cell? ⟨gb199, 4, none⟩ = some (.int .i64 t193) := (blk_cell BK199.out 4).trans rfl
                                            have hcz138_5 : wr.cell? ⟨gb199, 5, none⟩ = some (.int .i64 t194) := (blk_cell BK199.out 5).trans rfl
                                            have hcz138_6 : wr.cell? ⟨gb199, 6, none⟩ = some (.bool t195) := (blk_cell BK199.out 6).trans rfl
                                            have hcz138_7 : wr.cell? ⟨gb199, 7, none⟩ = some (.int .i64 t196) := (blk_cell BK199.out 7).trans rfl
                                            have hfz138_0 := blk_frozen BK199.out 0
                                            have hfz138_1 := blk_frozen BK199.out 1
                                            have hfz138_2 := blk_frozen BK199.out 2
                                            have hfz138_3 := blk_frozen BK199.out 3
                                            have hfz138_4 := blk_frozen BK199.out 4
                                            have hfz138_5 := blk_frozen BK199.out 5
                                            have hfz138_6 := blk_frozen BK199.out 6
                                            have hfz138_7 := blk_frozen BK199.out 7
                                            have hnb139 := NB223_211.out
                                            have hnc139 := NB211_223.out
                                            have hcz140_0 : wr.cell? ⟨gb223, 0, none⟩ = some (.int .u8 t213) := (blk_cell BK223.out 0).trans rfl
                                            have hcz140_1 : wr.cell? ⟨gb223, 1, none⟩ = some (.int .i64 t214) := (blk_cell BK223.out 1).trans rfl
                                            have hcz140_2 : wr.cell? ⟨gb223, 2, none⟩ = some (.int .i64 t215) := (blk_cell BK223.out 2).trans rfl
                                            have hcz140_3 : wr.cell? ⟨gb223, 3, none⟩ = some (.int .i64 t216) := (blk_cell BK223.out 3).trans rfl
                                            have hcz140_4 : wr.cell? ⟨gb223, 4, none⟩ = some (.int .i64 t217) := (blk_cell BK223.out 4).trans rfl
                                            have hcz140_5 : wr.cell? ⟨gb223, 5, none⟩ = some (.int .i64 t218) := (blk_cell BK223.out 5).trans rfl
                                            have hcz140_6 : wr.cell? ⟨gb223, 6, none⟩ = some (.bool t219) := (blk_cell BK223.out 6).trans rfl
                                            have hcz140_7 : wr.cell? ⟨gb223, 7, none⟩ = some (.int .i64 t220) := (blk_cell BK223.out 7).trans rfl
                                            have hfz140_0 := blk_frozen BK223.out 0
                                            have hfz140_1 := blk_frozen BK223.out 1
                                            have hfz140_2 := blk_frozen BK223.out 2
                                            have hfz140_3 := blk_frozen BK223.out 3
                                            have hfz140_4 := blk_frozen BK223.out 4
                                            have hfz140_5 := blk_frozen BK223.out 5
                                            have hfz140_6 := blk_frozen BK223.out 6
                                            have hfz140_7 := blk_frozen BK223.out 7
                                            go_wp2_with (first | (go_at_call 8; (with_reducible refine (sundiallaw08_wakes.calls true _ A134.out).mono ?_); rintro e w141 ⟨rfl, hb⟩; have n0_ := Aside0.mk (Kd.R_below (by (with_reducible repeat (first | apply Kd.R_alloc | apply Kd.R_drewN | apply Kd.R_drew)); exact HO_17.out) hb); have n1_ := Aside0.mk (blk_below (g := gb199) (o := .cells #[.int .u8 t189, .int .i64 t190, .int .i64 t191, .int .i64 t192, .int .i64 t193, .int .i64 t194, .bool t195, .int .i64 t196] 23 (0, 0)) (by (with_reducible repeat (first | refine blk_drewN ?_ _ | refine blk_drew ?_ | refine blk_alloc ?_ _)); exact BK199.out) hb); have n2_ := Aside0.mk (blk_below (g := gb211) (o := .cells #[.int .u8 t201, .int .i64 t202, .int .i64 t203, .int .i64 t204, .int .i64 t205, .int .i64 t206, .bool t207, .int .i64 t208] 23 (0, 0)) (by (with_reducible repeat (first | refine blk_drewN ?_ _ | refine blk_drew ?_ | refine blk_alloc ?_ _)); exact BK211.out) hb); have n3_ := Aside0.mk (blk_below (g := gb223) (o := .cells #[.int .u8 t213, .int .i64 t214, .int .i64 t215, .int .i64 t216, .int .i64 t217, .int .i64 t218, .bool t219, .int .i64 t220] 23 (0, 0)) (by (with_reducible repeat (first | refine blk_drewN ?_ _ | refine blk_drew ?_ | refine blk_alloc ?_ _)); exact BK223.out) hb); have n4_ := Aside0.mk (below_step (by repeat (first | (with_reducible first | exact HB.out | apply below_alloc | apply pw_below_drewN | apply below_drew1 | refine below_set ?_ GE199.out | refine below_set ?_ GE211.out | refine below_set ?_ GE223.out) | exact HB.out)) hb); clear HO_17; clear BK199; clear BK211; clear BK223; clear HB; have HO_17 := n0_; have BK199 := n1_; have BK211 := n2_; have BK223 := n3_; have HB := n4_; clear n0_ n1_ n2_ n3_ n4_; (try clear hb); (try clear hb2); (try clear hk); (try clear hi)))
                                            go_ret
                                            exact ⟨by first | rfl | (simp [errW_none, errW_some] <;> rfl) | (simp [*, errW_none, errW_some] <;> rfl), by repeat (first | (with_reducible first | exact HB.out | apply below_alloc | apply pw_below_drewN | apply below_drew1 | refine below_set ?_ GE199.out | refine below_set ?_ GE211.out | refine below_set ?_ GE223.out) | exact HB.out)⟩
                                      · rw [if_neg c133] at H
                                        try first | (with_reducible exact absurd H (sundiallaw08_OperandParts.j0_no ..)) | (with_reducible exact absurd H (sundiallaw08_OperandParts.j1_no ..)) | (with_reducible exact absurd H (sundiallaw08_OperandParts.some_no))
                                        all_goals
                                          have c133b0 : decide ((t225.length : Int) ≤ 2) = false := decide_eq_false c133
                                          have c133b1 : decide (t225.length ≤ 2) = false := decide_eq_false (by omega)
                                          clear c133
                                          try (exact absurd H sundiallaw08_OperandParts.some_no)
                                          all_goals
                                            obtain rfl := Option.some.inj H
                                            obtain ⟨Ao142, co142, eo142⟩ := Kd.R_slice HO_17.out
                                            subst eo142
                                            have hnb143 := NB199_211.out
                                            have hnc143 := NB211_199.out
                                            have hnb144 := NB199_223.out
                                            have hnc144 := NB223_199.out
                                            have hcz145_0 : wr.cell? ⟨gb199, 0, none⟩ = some (.int .u8 t189) := (blk_cell BK199.out 0).trans rfl
                                            have hcz145_1 : wr.cell? ⟨gb199, 1, none⟩ = some (.int .i64 t190) := (blk_cell BK199.out 1).trans rfl
                                            have hcz145_2 : wr.cell? ⟨gb199, 2, none⟩ = some (.int .i64 t191) := (blk_cell BK199.out 2).trans rfl
                                            have hcz145_3 : wr.cell? ⟨gb199, 3, none⟩ = some (.int .i64 t192) := (blk_cell BK199.out 3).trans rfl
                                            have hcz145_4 : wr.cell? ⟨gb199, 4, none⟩ = some (.int .i64 t193) := (blk_cell BK199.out 4).trans rfl
                                            have hcz145_5 : wr.cell? ⟨gb199, 5, none⟩ = some (.int .i64 t194) := (blk_cell BK199.out 5).trans rfl
                                            have hcz145_6 : wr.cell? ⟨gb199, 6, none⟩ = some (.bool t195) := (blk_cell BK199.out 6).trans rfl
                                            have hcz145_7 : wr.cell? ⟨gb199, 7, none⟩ = some (.int .i64 t196) := (blk_cell BK199.out 7).trans rfl
                                            have hfz145_0 := blk_frozen BK199.out 0
                                            have hfz145_1 := blk_frozen BK199.out 1
                                            have hfz145_2 := blk_frozen BK199.out 2
                                            have hfz145_3 := blk_frozen BK199.out 3
                                            have hfz145_4 := blk_frozen BK199.out 4
                                            have hfz145_5 := blk_frozen BK199.out 5
                                            have hfz145_6 := blk_frozen BK199.out 6
                                            have hfz145_7 := blk_frozen BK199.out 7
                                            have hnb146 := NB223_211.out
                                            have hnc146 := NB211_223.out
                                            have hcz147_0 : wr.cell? ⟨gb223, 0, none⟩ = some (.int .u8 t213) := (blk_cell BK223.out 0).trans rfl
                                            have hcz147_1 : wr.cell? ⟨gb223, 1, none⟩ = some (.int .i64 t214) := (blk_cell BK223.out 1).trans rfl
                                            have hcz147_2 : wr.cell? ⟨gb223, 2, none⟩ = some (.int .i64 t215) := (blk_cell BK223.out 2).trans rfl
                                            have hcz147_3 : wr.cell? ⟨gb223, 3, none⟩ = some (.int .i64 t216) := (blk_cell BK223.out 3).trans rfl
                                            have hcz147_4 : wr.cell? ⟨gb223, 4, none⟩ = some (.int .i64 t217) := (blk_cell BK223.out 4).trans rfl
                                            have hcz147_5 : wr.cell? ⟨gb223, 5, none⟩ = some (.int .i64 t218) := (blk_cell BK223.out 5).trans rfl
                                            have hcz147_6 : wr.cell? ⟨gb223, 6, none⟩ = some (.bool t219) := (blk_cell BK223.out 6).trans rfl
                                            have hcz147_7 : wr.cell? ⟨gb223, 7, none⟩ = some (.int .i64 t220) := (blk_cell BK223.out 7).trans rfl
                                            have hfz147_0 := blk_frozen BK223.out 0
                                            have hfz147_1 := blk_frozen BK223.out 1
                                            have hfz147_2 := blk_frozen BK223.out 2
                                            have hfz147_3 := blk_frozen BK223.out 3
                                            have hfz147_4 := blk_frozen BK223.out 4
                                            have hfz147_5 := blk_frozen BK223.out 5
                                            have hfz147_6 := blk_frozen BK223.out 6
                                            have hfz147_7 := blk_frozen BK223.out 7
                                            go_wp2
                                            go_ret
                                            exact ⟨by first | rfl | (simp [errW_none, errW_some] <;> rfl) | (simp [*, errW_none, errW_some] <;> rfl), by repeat (first | (with_reducible first | exact HB.out | apply below_alloc | apply pw_below_drewN | apply below_drew1 | refine below_set ?_ GE199.out | refine below_set ?_ GE211.out | refine below_set ?_ GE223.out) | exact HB.out)⟩
                                  · rw [if_neg c132] at H
                                    try first | (with_reducible exact absurd H (sundiallaw08_OperandParts.j0_no ..)) | (with_reducible exact absurd H (sundiallaw08_OperandParts.j1_no ..)) | (with_reducible exact absurd H (sundiallaw08_OperandParts.some_no))
                                    all_goals
                                      have c132b0 : (t192 == (wrap64 (t216 + 8))) = false := beq_eq_false_iff_ne.mpr c132
                                      have c132b1 : (t192 != (wrap64 (t216 + 8))) = true := bne_iff_ne.mpr c132
                                      by_cases c148 : t216 = (-1)
                                      · rw [if_pos c148] at H
                                        try first | (with_reducible exact absurd H (sundiallaw08_OperandParts.j0_no ..)) | (with_reducible exact absurd H (sundiallaw08_OperandParts.j1_no ..)) | (with_reducible exact absurd H (sundiallaw08_OperandParts.some_no))
                                        all_goals
                                          have c148b0 : (t216 == (-1)) = true := beq_iff_eq.mpr c148
                                          have c148b1 : (t216 != (-1)) = false := bne_eq_false_iff_eq.mpr c148
                                          clear c148
                                          by_cases c149 : t192 = 12
                                          · rw [if_pos c149] at H
                                            try first | (with_reducible exact absurd H (sundiallaw08_OperandParts.j0_no ..)) | (with_reducible exact absurd H (sundiallaw08_OperandParts.j1_no ..)) | (with_reducible exact absurd H (sundiallaw08_OperandParts.some_no))
                                            all_goals
                                              have c149b0 : (t192 == 12) = true := beq_iff_eq.mpr c149
                                              have c149b1 : (t192 != 12) = false := bne_eq_false_iff_eq.mpr c149
                                              clear c149
                                              by_cases c150 : (t225.length : Int) ≤ 2
                                              · rw [if_pos c150] at H
                                                try first | (with_reducible exact absurd H (sundiallaw08_OperandParts.j0_no ..)) | (with_reducible exact absurd H (sundiallaw08_OperandParts.j1_no ..)) | (with_reducible exact absurd H (sundiallaw08_OperandParts.some_no))
                                                all_goals
                                                  have c150b0 : decide ((t225.length : Int) ≤ 2) = true := decide_eq_true c150
                                                  have c150b1 : decide (t225.length ≤ 2) = true := decide_eq_true (by omega)
                                                  clear c150
                                                  replace H := Option.bind_eq_some_iff.mp H
                                                  obtain ⟨t232, A1510, H⟩ := H
                                                  replace H : (some t232) = some true := H
                                                  have A151 := Aside0.mk A1510
                                                  clear A1510
                                                  try (exact absurd H sundiallaw08_OperandParts.some_no)
                                                  all_goals
                                                    obtain rfl := Option.some.inj H
                                                    obtain ⟨Ao152, co152, eo152⟩ := Kd.R_slice HO_17.out
                                                    subst eo152
                                                    have hnb153 := NB199_211.out
                                                    have hnc153 := NB211_199.out
                                                    have hnb154 := NB199_223.out
                                                    have hnc154 := NB223_199.out
                                                    have hcz155_0 : wr.cell? ⟨gb199, 0, none⟩ = some (.int .u8 t189) := (blk_cell BK199.out 0).trans rfl
                                                    have hcz155_1 : wr.cell? ⟨gb199, 1, none⟩ = some (.int .i64 t190) := (blk_cell BK199.out 1).trans rfl
                                                    have hcz155_2 : wr.cell? ⟨gb199, 2, none⟩ = some (.int .i64 t191) := (blk_cell BK199.out 2).trans rfl
                                                    have hcz155_3 : wr.cell? ⟨gb199, 3, none⟩ = some (.int .i64 t192) := (blk_cell BK199.out 3).trans rfl
                                                    have hcz155_4 : wr.cell? ⟨gb199, 4, none⟩ = some (.int .i64 t193) := (blk_cell BK199.out 4).trans rfl
                                                    have hcz155_5 : wr.cell? ⟨gb199, 5, none⟩ = some (.int .i64 t194) := (blk_cell BK199.out 5).trans rfl
                                                    have hcz155_6 : wr.cell? ⟨gb199, 6, none⟩ = some (.bool t195) := (blk_cell BK199.out 6).trans rfl
                                                    have hcz155_7 : wr.cell? ⟨gb199, 7, none⟩ = some (.int .i64 t196) := (blk_cell BK199.out 7).trans rfl
                                                    have hfz155_0 := blk_frozen BK199.out 0
                                                    have hfz155_1 := blk_frozen BK199.out 1
                                                    have hfz155_2 := blk_frozen BK199.out 2
                                                    have hfz155_3 := blk_frozen BK199.out 3
                                                    have hfz155_4 := blk_frozen BK199.out 4
                                                    have hfz155_5 := blk_frozen BK199.out 5
                                                    have hfz155_6 := blk_frozen BK199.out 6
                                                    have hfz155_7 := blk_frozen BK199.out 7
                                                    have hnb156 := NB223_211.out
                                                    have hnc156 := NB211_223.out
                                                    have hcz157_0 : wr.cell? ⟨gb223, 0, none⟩ = some (.int .u8 t213) := (blk_cell BK223.out 0).trans rfl
                                                    have hcz157_1 : wr.cell? ⟨gb223, 1, none⟩ = some (.int .i64 t214) := (blk_cell BK223.out 1).trans rfl
                                                    have hcz157_2 : wr.cell? ⟨gb223, 2, none⟩ = some (.int .i64 t215) := (blk_cell BK223.out 2).trans rfl
                                                    have hcz157_3 : wr.cell? ⟨gb223, 3, none⟩ = some (.int .i64 t216) := (blk_cell BK223.out 3).trans rfl
                                                    have hcz157_4 : wr.cell? ⟨gb223, 4, none⟩ = some (.int .i64 t217) := (blk_cell BK223.out 4).trans rfl
                                                    have hcz157_5 : wr.cell? ⟨gb223, 5, none⟩ = some (.int .i64 t218) := (blk_cell BK223.out 5).trans rfl
                                                    have hcz157_6 : wr.cell? ⟨gb223, 6, none⟩ = some (.bool t219) := (blk_cell BK223.out 6).trans rfl
                                                    have hcz157_7 : wr.cell? ⟨gb223, 7, none⟩ = some (.int .i64 t220) := (blk_cell BK223.out 7).trans rfl
                                                    have hfz157_0 := blk_frozen BK223.out 0
                                                    have hfz157_1 := blk_frozen BK223.out 1
                                                    have hfz157_2 := blk_frozen BK223.out 2
                                                    have hfz157_3 := blk_frozen BK223.out 3
                                                    have hfz157_4 := blk_frozen BK223.out 4
                                                    have hfz157_5 := blk_frozen BK223.out 5
                                                    have hfz157_6 := blk_frozen BK223.out 6
                                                    have hfz157_7 := blk_frozen BK223.out 7
                                                    go_wp2_with (first | (go_at_call 8; (with_reducible refine (sundiallaw08_wakes.calls true _ A151.out).mono ?_); rintro e w158 ⟨rfl, hb⟩; have n0_ := Aside0.mk (Kd.R_below (by (with_reducible repeat (first | apply Kd.R_alloc | apply Kd.R_drewN | apply Kd.R_drew)); exact HO_17.out) hb); have n1_ := Aside0.mk (blk_below (g := gb199) (o := .cells #[.int .u8 t189, .int .i64 t190, .int .i64 t191, .int .i64 t192, .int .i64 t193, .int .i64 t194, .bool t195, .int .i64 t196] 23 (0, 0)) (by (with_reducible repeat (first | refine blk_drewN ?_ _ | refine blk_drew ?_ | refine blk_alloc ?_ _)); exact BK199.out) hb); have n2_ := Aside0.mk (blk_below (g := gb211) (o := .cells #[.int .u8 t201, .int .i64 t202, .int .i64 t203, .int .i64 t204, .int .i64 t205, .int .i64 t206, .bool t207, .int .i64 t208] 23 (0, 0)) (by (with_reducible repeat (first | refine blk_drewN ?_ _ | refine blk_drew ?_ | refine blk_alloc ?_ _)); exact BK211.out) hb); have n3_ := Aside0.mk (blk_below (g := gb223) (o := .cells #[.int .u8 t213, .int .i64 t214, .int .i64 t215, .int .i64 t216, .int .i64 t217, .int .i64 t218, .bool t219, .int .i64 t220] 23 (0, 0)) (by (with_reducible repeat (first | refine blk_drewN ?_ _ | refine blk_drew ?_ | refine blk_alloc ?_ _)); exact BK223.out) hb); have n4_ := Aside0.mk (below_step (by repeat (first | (with_reducible first | exact HB.out | apply below_alloc | apply pw_below_drewN | apply below_drew1 | refine below_set ?_ GE199.out | refine below_set ?_ GE211.out | refine below_set ?_ GE223.out) | exact HB.out)) hb); clear HO_17; clear BK199; clear BK211; clear BK223; clear HB; have HO_17 := n0_; have BK199 := n1_; have BK211 := n2_; have BK223 := n3_; have HB := n4_; clear n0_ n1_ n2_ n3_ n4_; (try clear hb); (try clear hb2); (try clear hk); (try clear hi)))
                                                    go_ret
                                                    exact ⟨by first | rfl | (simp [errW_none, errW_some] <;> rfl) | (simp [*, errW_none, errW_some] <;> rfl), by repeat (first | (with_reducible first | exact HB.out | apply below_alloc | apply pw_below_drewN | apply below_drew1 | refine below_set ?_ GE199.out | refine below_set ?_ GE211.out | refine below_set ?_ GE223.out) | exact HB.out)⟩
                                              · rw [if_neg c150] at H
                                                try first | (with_reducible exact absurd H (sundiallaw08_OperandParts.j0_no ..)) | (with_reducible exact absurd H (sundiallaw08_OperandParts.j1_no ..)) | (with_reducible exact absurd H (sundiallaw08_OperandParts.some_no))
                                                all_goals
                                                  have c150b0 : decide ((t225.length : Int) ≤ 2) = false := decide_eq_false c150
                                                  have c150b1 : decide (t225.length ≤ 2) = false := decide_eq_false (by omega)
                                                  clear c150
                                                  try (exact absurd H sundiallaw08_OperandParts.some_no)
                                                  all_goals
                                                    obtain rfl := Option.some.inj H
                                                    obtain ⟨Ao159, co159, eo159⟩ := Kd.R_slice HO_17.out
                                                    subst eo159
                                                    have hnb160 := NB199_211.out
                                                    have hnc160 := NB211_199.out
                                                    have hnb161 := NB199_223.out
                                                    have hnc161 := NB223_199.out
                                                    have hcz162_0 : wr.cell? ⟨gb199, 0, none⟩ = some (.int .u8 t189) := (blk_cell BK199.out 0).trans rfl
                                                    have hcz162_1 : wr.cell? ⟨gb199, 1, none⟩ = some (.int .i64 t190) := (blk_cell BK199.out 1).trans rfl
                                                    have hcz162_2 : wr.cell? ⟨gb199, 2, none⟩ = some (.int .i64 t191) := (blk_cell BK199.out 2).trans rfl
                                                    have hcz162_3 : wr.cell? ⟨gb199, 3, none⟩ = some (.int .i64 t192) := (blk_cell BK199.out 3).trans rfl
                                                    have hcz162_4 : wr.cell? ⟨gb199, 4, none⟩ = some (.int .i64 t193) := (blk_cell BK199.out 4).trans rfl
                                                    have hcz162_5 : wr.cell? ⟨gb199, 5, none⟩ = some (.int .i64 t194) := (blk_cell BK199.out 5).trans rfl
                                                    have hcz162_6 : wr.cell? ⟨gb199, 6, none⟩ = some (.bool t195) := (blk_cell BK199.out 6).trans rfl
                                                    have hcz162_7 : wr.cell? ⟨gb199, 7, none⟩ = some (.int .i64 t196) := (blk_cell BK199.out 7).trans rfl
                                                    have hfz162_0 := blk_frozen BK199.out 0
                                                    have hfz162_1 := blk_frozen BK199.out 1
                                                    have hfz162_2 := blk_frozen BK199.out 2
                                                    have hfz162_3 := blk_frozen BK199.out 3
                                                    have hfz162_4 := blk_frozen BK199.out 4
                                                    have hfz162_5 := blk_frozen BK199.out 5
                                                    have hfz162_6 := blk_frozen BK199.out 6
                                                    have hfz162_7 := blk_frozen BK199.out 7
                                                    have hnb163 := NB223_211.out
                                                    have hnc163 := NB211_223.out
                                                    have hcz164_0 : wr.cell? ⟨gb223, 0, none⟩ = some (.int .u8 t213) := (blk_cell BK223.out 0).trans rfl
                                                    have hcz164_1 : wr.cell? ⟨gb223, 1, none⟩ = some (.int .i64 t214) := (blk_cell BK223.out 1).trans rfl
                                                    have hcz164_2 : wr.cell? ⟨gb223, 2, none⟩ = some (.int .i64 t215) := (blk_cell BK223.out 2).trans rfl
                                                    have hcz164_3 : wr.cell? ⟨gb223, 3, none⟩ = some (.int .i64 t216) := (blk_cell BK223.out 3).trans rfl
                                                    have hcz164_4 : wr.cell? ⟨gb223, 4, none⟩ = some (.int .i64 t217) := (blk_cell BK223.out 4).trans rfl
                                                    have hcz164_5 : wr.cell? ⟨gb223, 5, none⟩ = some (.int .i64 t218) := (blk_cell BK223.out 5).trans rfl
                                                    have hcz164_6 : wr.cell? ⟨gb223, 6, none⟩ = some (.bool t219) := (blk_cell BK223.out 6).trans rfl
                                                    have hcz164_7 : wr.cell? ⟨gb223, 7, none⟩ = some (.int .i64 t220) := (blk_cell BK223.out 7).trans rfl
                                                    have hfz164_0 := blk_frozen BK223.out 0
                                                    have hfz164_1 := blk_frozen BK223.out 1
                                                    have hfz164_2 := blk_frozen BK223.out 2
                                                    have hfz164_3 := blk_frozen BK223.out 3
                                                    have hfz164_4 := blk_frozen BK223.out 4
                                                    have hfz164_5 := blk_frozen BK223.out 5
                                                    have hfz164_6 := blk_frozen BK223.out 6
                                                    have hfz164_7 := blk_frozen BK223.out 7
                                                    go_wp2
                                                    go_ret
                                                    exact ⟨by first | rfl | (simp [errW_none, errW_some] <;> rfl) | (simp [*, errW_none, errW_some] <;> rfl), by repeat (first | (with_reducible first | exact HB.out | apply below_alloc | apply pw_below_drewN | apply below_drew1 | refine below_set ?_ GE199.out | refine below_set ?_ GE211.out | refine below_set ?_ GE223.out) | exact HB.out)⟩
                                          · rw [if_neg c149] at H
                                            try first | (with_reducible exact absurd H (sundiallaw08_OperandParts.j0_no ..)) | (with_reducible exact absurd H (sundiallaw08_OperandParts.j1_no ..)) | (with_reducible exact absurd H (sundiallaw08_OperandParts.some_no))
                                            all_goals
                                              have c149b0 : (t192 == 12) = false := beq_eq_false_iff_ne.mpr c149
                                              have c149b1 : (t192 != 12) = true := bne_iff_ne.mpr c149
                                              try (exact absurd H sundiallaw08_OperandParts.some_no)
                                              all_goals
                                                obtain rfl := Option.some.inj H
                                                obtain ⟨Ao165, co165, eo165⟩ := Kd.R_slice HO_17.out
                                                subst eo165
                                                have hnb166 := NB199_211.out
                                                have hnc166 := NB211_199.out
                                                have hnb167 := NB199_223.out
                                                have hnc167 := NB223_199.out
                                                have hcz168_0 : wr.cell? ⟨gb199, 0, none⟩ = some (.int .u8 t189) := (blk_cell BK199.out 0).trans rfl
                                                have hcz168_1 : wr.cell? ⟨gb199, 1, none⟩ = some (.int .i64 t190) := (blk_cell BK199.out 1).trans rfl
                                                have hcz168_2 : wr.cell? ⟨gb199, 2, none⟩ = some (.int .i64 t191) := (blk_cell BK199.out 2).trans rfl
                                                have hcz168_3 : wr.cell? ⟨gb199, 3, none⟩ = some (.int .i64 t192) := (blk_cell BK199.out 3).trans rfl
                                                have hcz168_4 : wr.cell? ⟨gb199, 4, none⟩ = some (.int .i64 t193) := (blk_cell BK199.out 4).trans rfl
                                                have hcz168_5 : wr.cell? ⟨gb199, 5, none⟩ = some (.int .i64 t194) := (blk_cell BK199.out 5).trans rfl
                                                have hcz168_6 : wr.cell? ⟨gb199, 6, none⟩ = some (.bool t195) := (blk_cell BK199.out 6).trans rfl
                                                have hcz168_7 : wr.cell? ⟨gb199, 7, none⟩ = some (.int .i64 t196) := (blk_cell BK199.out 7).trans rfl
                                                have hfz168_0 := blk_frozen BK199.out 0
                                                have hfz168_1 := blk_frozen BK199.out 1
                                                have hfz168_2 := blk_frozen BK199.out 2
                                                have hfz168_3 := blk_frozen BK199.out 3
                                                have hfz168_4 := blk_frozen BK199.out 4
                                                have hfz168_5 := blk_frozen BK199.out 5
                                                have hfz168_6 := blk_frozen BK199.out 6
                                                have hfz168_7 := blk_frozen BK199.out 7
                                                have hnb169 := NB223_211.out
                                                have hnc169 := NB211_223.out
                                                have hcz170_0 : wr.cell? ⟨gb223, 0, none⟩ = some (.int .u8 t213) := (blk_cell BK223.out 0).trans rfl
                                                have hcz170_1 : wr.cell? ⟨gb223, 1, none⟩ = some (.int .i64 t214) := (blk_cell BK223.out 1).trans rfl
                                                have hcz170_2 : wr.cell? ⟨gb223, 2, none⟩ = some (.int .i64 t215) := (blk_cell BK223.out 2).trans rfl
                                                have hcz170_3 : wr.cell? ⟨gb223, 3, none⟩ = some (.int .i64 t216) := (blk_cell BK223.out 3).trans rfl
                                                have hcz170_4 : wr.cell? ⟨gb223, 4, none⟩ = some (.int .i64 t217) := (blk_cell BK223.out 4).trans rfl
                                                have hcz170_5 : wr.cell? ⟨gb223, 5, none⟩ = some (.int .i64 t218) := (blk_cell BK223.out 5).trans rfl
                                                have hcz170_6 : wr.cell? ⟨gb223, 6, none⟩ = some (.bool t219) := (blk_cell BK223.out 6).trans rfl
                                                have hcz170_7 : wr.cell? ⟨gb223, 7, none⟩ = some (.int .i64 t220) := (blk_cell BK223.out 7).trans rfl
                                                have hfz170_0 := blk_frozen BK223.out 0
                                                have hfz170_1 := blk_frozen BK223.out 1
                                                have hfz170_2 := blk_frozen BK223.out 2
                                                have hfz170_3 := blk_frozen BK223.out 3
                                                have hfz170_4 := blk_frozen BK223.out 4
                                                have hfz170_5 := blk_frozen BK223.out 5
                                                have hfz170_6 := blk_frozen BK223.out 6
                                                have hfz170_7 := blk_frozen BK223.out 7
                                                go_wp2
                                                go_ret
                                                exact ⟨by first | rfl | (simp [errW_none, errW_some] <;> rfl) | (simp [*, errW_none, errW_some] <;> rfl), by repeat (first | (with_reducible first | exact HB.out | apply below_alloc | apply pw_below_drewN | apply below_drew1 | refine below_set ?_ GE199.out | refine below_set ?_ GE211.out | refine below_set ?_ GE223.out) | exact HB.out)⟩
                                      · rw [if_neg c148] at H
                                        try first | (with_reducible exact absurd H (sundiallaw08_OperandParts.j0_no ..)) | (with_reducible exact absurd H (sundiallaw08_OperandParts.j1_no ..)) | (with_reducible exact absurd H (sundiallaw08_OperandParts.some_no))
                                        all_goals
                                          have c148b0 : (t216 == (-1)) = false := beq_eq_false_iff_ne.mpr c148
                                          have c148b1 : (t216 != (-1)) = true := bne_iff_ne.mpr c148
                                          try (exact absurd H sundiallaw08_OperandParts.some_no)
                                          all_goals
                                            obtain rfl := Option.some.inj H
                                            obtain ⟨Ao171, co171, eo171⟩ := Kd.R_slice HO_17.out
                                            subst eo171
                                            have hnb172 := NB199_211.out
                                            have hnc172 := NB211_199.out
                                            have hnb173 := NB199_223.out
                                            have hnc173 := NB223_199.out
                                            have hcz174_0 : wr.cell? ⟨gb199, 0, none⟩ = some (.int .u8 t189) := (blk_cell BK199.out 0).trans rfl
                                            have hcz174_1 : wr.cell? ⟨gb199, 1, none⟩ = some (.int .i64 t190) := (blk_cell BK199.out 1).trans rfl
                                            have hcz174_2 : wr.cell? ⟨gb199, 2, none⟩ = some (.int .i64 t191) := (blk_cell BK199.out 2).trans rfl
                                            have hcz174_3 : wr.cell? ⟨gb199, 3, none⟩ = some (.int .i64 t192) := (blk_cell BK199.out 3).trans rfl
                                            have hcz174_4 : wr.cell? ⟨gb199, 4, none⟩ = some (.int .i64 t193) := (blk_cell BK199.out 4).trans rfl
                                            have hcz174_5 : wr.cell? ⟨gb199, 5, none⟩ = some (.int .i64 t194) := (blk_cell BK199.out 5).trans rfl
                                            have hcz174_6 : wr.cell? ⟨gb199, 6, none⟩ = some (.bool t195) := (blk_cell BK199.out 6).trans rfl
                                            have hcz174_7 : wr.cell? ⟨gb199, 7, none⟩ = some (.int .i64 t196) := (blk_cell BK199.out 7).trans rfl
                                            have hfz174_0 := blk_frozen BK199.out 0
                                            have hfz174_1 := blk_frozen BK199.out 1
                                            have hfz174_2 := blk_frozen BK199.out 2
                                            have hfz174_3 := blk_frozen BK199.out 3
                                            have hfz174_4 := blk_frozen BK199.out 4
                                            have hfz174_5 := blk_frozen BK199.out 5
                                            have hfz174_6 := blk_frozen BK199.out 6
                                            have hfz174_7 := blk_frozen BK199.out 7
                                            have hnb175 := NB223_211.out
                                            have hnc175 := NB211_223.out
                                            have hcz176_0 : wr.cell? ⟨gb223, 0, none⟩ = some (.int .u8 t213) := (blk_cell BK223.out 0).trans rfl
                                            have hcz176_1 : wr.cell? ⟨gb223, 1, none⟩ = some (.int .i64 t214) := (blk_cell BK223.out 1).trans rfl
                                            have hcz176_2 : wr.cell? ⟨gb223, 2, none⟩ = some (.int .i64 t215) := (blk_cell BK223.out 2).trans rfl
                                            have hcz176_3 : wr.cell? ⟨gb223, 3, none⟩ = some (.int .i64 t216) := (blk_cell BK223.out 3).trans rfl
                                            have hcz176_4 : wr.cell? ⟨gb223, 4, none⟩ = some (.int .i64 t217) := (blk_cell BK223.out 4).trans rfl
                                            have hcz176_5 : wr.cell? ⟨gb223, 5, none⟩ = some (.int .i64 t218) := (blk_cell BK223.out 5).trans rfl
                                            have hcz176_6 : wr.cell? ⟨gb223, 6, none⟩ = some (.bool t219) := (blk_cell BK223.out 6).trans rfl
                                            have hcz176_7 : wr.cell? ⟨gb223, 7, none⟩ = some (.int .i64 t220) := (blk_cell BK223.out 7).trans rfl
                                            have hfz176_0 := blk_frozen BK223.out 0
                                            have hfz176_1 := blk_frozen BK223.out 1
                                            have hfz176_2 := blk_frozen BK223.out 2
                                            have hfz176_3 := blk_frozen BK223.out 3
                                            have hfz176_4 := blk_frozen BK223.out 4
                                            have hfz176_5 := blk_frozen BK223.out 5
                                            have hfz176_6 := blk_frozen BK223.out 6
                                            have hfz176_7 := blk_frozen BK223.out 7
                                            go_wp2
                                            go_ret
                                            exact ⟨by first | rfl | (simp [errW_none, errW_some] <;> rfl) | (simp [*, errW_none, errW_some] <;> rfl), by repeat (first | (with_reducible first | exact HB.out | apply below_alloc | apply pw_below_drewN | apply below_drew1 | refine below_set ?_ GE199.out | refine below_set ?_ GE211.out | refine below_set ?_ GE223.out) | exact HB.out)⟩
            · rw [if_neg c53] at H
              try first | (with_reducible exact absurd H (sundiallaw08_OperandParts.j0_no ..)) | (with_reducible exact absurd H (sundiallaw08_OperandParts.j1_no ..)) | (with_reducible exact absurd H (sundiallaw08_OperandParts.some_no))
              all_goals
                have c53b0 : (t198 == 0) = false := beq_eq_false_iff_ne.mpr c53
                have c53b1 : (t198 != 0) = true := bne_iff_ne.mpr c53
                replace H := Option.bind_eq_some_iff.mp H
                obtain ⟨t224, A1770, H⟩ := H
                replace H : (some t224) = some true := H
                have A177 := Aside0.mk A1770
                clear A1770
                try (exact absurd H sundiallaw08_OperandParts.some_no)
                all_goals
                  obtain rfl := Option.some.inj H
                  go_wp2_with (first | ((with_reducible refine gate_callee (f := 8) rfl ?_); refine goesL_ (some 77) rfl rfl Tryd.func8 (by kernel_rfl) rfl #[] rfl (by (try simp only [List.map_toArray, List.map_cons, List.map_nil]); first | done | rfl | (simp only [List.length_drop, List.length_take]; rfl)) ?_; (with_reducible refine (sundiallaw08_wakes.calls true _ A177.out).mono ?_); rintro e w178 ⟨rfl, hb⟩; refine ⟨_, rfl, ?_⟩; have n0_ := Aside0.mk (blk_below (g := gb199) (o := .cells #[.int .u8 t189, .int .i64 t190, .int .i64 t191, .int .i64 t192, .int .i64 t193, .int .i64 t194, .bool t195, .int .i64 t196] 23 (0, 0)) (by (with_reducible repeat (first | refine blk_drewN ?_ _ | refine blk_drew ?_ | refine blk_alloc ?_ _)); exact BK199.out) hb); have n1_ := Aside0.mk (blk_below (g := gb211) (o := .cells #[.int .u8 t201, .int .i64 t202, .int .i64 t203, .int .i64 t204, .int .i64 t205, .int .i64 t206, .bool t207, .int .i64 t208] 23 (0, 0)) (by (with_reducible repeat (first | refine blk_drewN ?_ _ | refine blk_drew ?_ | refine blk_alloc ?_ _)); exact BK211.out) hb); have n2_ := Aside0.mk (blk_below (g := gb223) (o := .cells #[.int .u8 t213, .int .i64 t214, .int .i64 t215, .int .i64 t216, .int .i64 t217, .int .i64 t218, .bool t219, .int .i64 t220] 23 (0, 0)) (by (with_reducible repeat (first | refine blk_drewN ?_ _ | refine blk_drew ?_ | refine blk_alloc ?_ _)); exact BK223.out) hb); have n3_ := Aside0.mk (below_step (by repeat (first | (with_reducible first | exact HB.out | apply below_alloc | apply pw_below_drewN | apply below_drew1 | refine below_set ?_ GE199.out | refine below_set ?_ GE211.out | refine below_set ?_ GE223.out) | exact HB.out)) hb); clear BK199; clear BK211; clear BK223; clear HB; have BK199 := n0_; have BK211 := n1_; have BK223 := n2_; have HB := n3_; clear n0_ n1_ n2_ n3_; (try clear hb); (try clear hb2); (try clear hk); (try clear hi)))
                  go_ret
                  exact ⟨by first | rfl | (simp [errW_none, errW_some] <;> rfl) | (simp [*, errW_none, errW_some] <;> rfl), by repeat (first | (with_reducible first | exact HB.out | apply below_alloc | apply pw_below_drewN | apply below_drew1 | refine below_set ?_ GE199.out | refine below_set ?_ GE211.out | refine below_set ?_ GE223.out) | exact HB.out)⟩

/-- THE ONE PURE STATEMENT of sundiallaw08_OperandParts: yours. -/
noncomputable def sundiallaw08_OperandParts.Pure : Prop := ∀ (l0 : List Int) (a1 : Int), l0.length ≤ maxLen → l0.length * 1 ≤ 140737488351232 → (∀ x ∈ l0, (Lit.int .u8 x).wf = true) → (Lit.int .u8 a1).wf = true → ∃ k, sundiallaw08_OperandParts.f k l0 a1 = some true
end Go.Proofs.YtppeidopijnnlaaDoor.B
