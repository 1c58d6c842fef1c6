/- StridedOrder tells true. -/
import Derived.Test.YtpphcfkldhemeaaDoorOq12
namespace Go.Proofs.YtpphcfkldhemeaaDoor.B
open Go.RowKit Go.Proofs.YtpphcfkldhemeaaDoorW.PrintWords Go.Proofs.YtpphcfkldhemeaaDoorW.PrintMore Go.RF
set_option linter.unusedVariables false
set_option linter.unusedSimpArgs false
def RgT (t : T3) : Prop := Rg t.1 ∧ Rg t.2.1 ∧ Rg t.2.2
theorem right_ok {t : T3} (h : RgT t) : ∃ b, sundialref22_Right.f t.1 t.2.1 t.2.2 = some b ∧ (b = true → Ok t) := by
  obtain ⟨b, h1, h2⟩ := right_f t.1 t.2.1 t.2.2 h.1 h.2.1 h.2.2
  refine ⟨b, h1, fun hb => ?_⟩
  rcases h2.1 hb with ⟨e1, e2, e3⟩ | h
  · exact .inl (Prod.ext e1 (Prod.ext e2 e3))
  · exact .inr h
theorem in_calls {a b : T3} (ha : Ok a) (hb : Ok b) (w : World) : Calls Tryd.prog 11 #[setT a, setT b] w fun e w' => e = .returned (.bool (inT a b)) ∧ Below w.heap.size w w' := strided_In.calls _ _ _ _ _ _ _ w (in_f ha hb)
theorem join_calls {a b : T3} (ha : Ok a) (hb : Ok b) (w : World) : Calls Tryd.prog 10 #[setT a, setT b] w fun e w' => e = .returned (setT (joinT a b)) ∧ Below w.heap.size w w' := by
  obtain ⟨K, h⟩ := join_f ha hb
  exact strided_Join.calls K _ _ _ _ _ _ _ _ _ w h
theorem cut_calls {a : T3} (ha : Ok a) (width : Int) (w : World) (hT : Tab w) : Calls Tryd.prog 16 #[setT a, .int .i64 width] w fun e w' => e = .returned (setT (cutT a (maskF width))) ∧ Below w.heap.size w w' := strided_Cut.calls 1 _ _ _ width _ _ _ w hT (cut_f ha width)
theorem neq_same (t : T3) (w : World) : (binOp .neq 24 (setT t) (setT t)).run Tryd.prog w = .ok (.bool false) w := by rw [neq_set]; simp
theorem eql_same (t : T3) (w : World) : (binOp .eql 24 (setT t) (setT t)).run Tryd.prog w = .ok (.bool true) w := by rw [eql_set]; simp
set_option maxHeartbeats 8000000 in
set_option maxRecDepth 100000 in
theorem run_alloc24 {o : Oper} {ρ : Operand → Value} {W : World} (ho : o.op = .alloc 24) : (execOp ρ o).run Tryd.prog W = .ok (.value (.pointer (some ⟨W.heap.size, 0, none⟩))) (W.alloc (.cells (setC 0 0 0) 24)) := by
  have hu24 := Tryd.underlying24
  unfold execOp
  simp only [ho]
  go_simp
theorem sets_but2 (L : List (Nat × Value)) (A : Array Value) (k0 k : Nat) (p x y : Value) (d : Nat) (h : d ≠ k) : (RS.sets A ((k0, p) :: (k, y) :: L)).getD d undef = (RS.sets A ((k0, p) :: (k, x) :: L)).getD d undef := RS.sets_but L (A.setIfInBounds k0 p) k x y d h
abbrev setK (t : T3) : Array Value := setC t.1 t.2.1 t.2.2
def OrS (w0 : World) (g0 g1 g2 : Nat) (a b c : T3) (w : World) : Prop :=
  w.heap[g0]? = some (.cells (setK a) 24 (0, 0)) ∧ w.heap[g1]? = some (.cells (setK b) 24 (0, 0)) ∧ w.heap[g2]? = some (.cells (setK c) 24 (0, 0)) ∧ Tab w ∧ Below w0.heap.size w0 w
theorem OrS.met {w0 : World} {g0 g1 g2 : Nat} {a b c : T3} {w w' : World} (h : OrS w0 g0 g1 g2 a b c w) (hb : Below w.heap.size w w') : OrS w0 g0 g1 g2 a b c w' :=
  ⟨heap_below hb h.1, heap_below hb h.2.1, heap_below hb h.2.2.1, h.2.2.2.1.below hb, below_step h.2.2.2.2 hb⟩
theorem OrS.drew {w0 : World} {g0 g1 g2 : Nat} {a b c : T3} {w : World} (h : OrS w0 g0 g1 g2 a b c w) : OrS w0 g0 g1 g2 a b c { w with drawn := w.drawn + 1 } := by
  obtain ⟨h1, h2, h3, h4, h5⟩ := h
  exact ⟨h1, h2, h3, h4, bY_ h5⟩
theorem OrS.set {w0 : World} {g0 g1 g2 g : Nat} {a b c : T3} {w : World} (h : OrS w0 g0 g1 g2 a b c w) (hg : 0 < w0.heap.size ∧ w0.heap.size ≤ g0 ∧ g0 < g1 ∧ g1 < g2) (hx : g2 < g) (u0 u1 u2 : Value) :
    OrS w0 g0 g1 g2 a b c (((w.setCell ⟨g, 0, none⟩ u0).setCell ⟨g, 1, none⟩ u1).setCell ⟨g, 2, none⟩ u2) := by
  obtain ⟨h1, h2, h3, h4, h5⟩ := h
  exact ⟨heap_set3 h1 (by omega) _ _ _, heap_set3 h2 (by omega) _ _ _, heap_set3 h3 (by omega) _ _ _, tab_set3 h4 (by omega) _ _ _, bS_ (bS_ (bS_ h5 (by omega)) (by omega)) (by omega)⟩
theorem OrS.lt {w0 : World} {g0 g1 g2 : Nat} {a b c : T3} {w : World} (h : OrS w0 g0 g1 g2 a b c w) : g2 < w.heap.size := (Array.getElem?_eq_some_iff.1 h.2.2.1).1
def NewB (g2 : Nat) (A B : Bool) (t : T3) (g : Nat) (w : World) : Prop := A = true → g2 < g ∧ w.heap[g]? = some (.cells (bif B then setK t else setC 0 0 0) 24 (0, 0))
theorem NewB.met {g2 : Nat} {A B : Bool} {t : T3} {g : Nat} {w w' : World} (h : NewB g2 A B t g w) (hb : Below w.heap.size w w') : NewB g2 A B t g w' := fun e => ⟨(h e).1, heap_below hb (h e).2⟩
def OrT (w0 : World) (g0 g1 g2 ga gb : Nat) (a b c one : T3) (w : World) : Prop := OrS w0 g0 g1 g2 a b c w ∧ w.heap[ga]? = some (.cells (setK one) 24 (0, 0)) ∧ w.heap[gb]? = some (.cells (setK one) 24 (0, 0))
theorem OrT.met {w0 : World} {g0 g1 g2 ga gb : Nat} {a b c one : T3} {w w' : World} (h : OrT w0 g0 g1 g2 ga gb a b c one w) (hb : Below w.heap.size w w') : OrT w0 g0 g1 g2 ga gb a b c one w' := ⟨h.1.met hb, heap_below hb h.2.1, heap_below hb h.2.2⟩
theorem OrT.drew {w0 : World} {g0 g1 g2 ga gb : Nat} {a b c one : T3} {w : World} (h : OrT w0 g0 g1 g2 ga gb a b c one w) : OrT w0 g0 g1 g2 ga gb a b c one { w with drawn := w.drawn + 1 } := ⟨h.1.drew, h.2.1, h.2.2⟩
def OrN (w0 : World) (g0 g1 g2 : Nat) (a b c one two : T3) (f : Nat → Bool) (ch : Nat × Nat) (w : World) : Prop :=
  OrS w0 g0 g1 g2 a b c w ∧ NewB g2 (f 10) (f 12) one ch.1 w ∧ NewB g2 (f 11) (f 13) two ch.2 w ∧ (f 10 = true → f 11 = true → ch.1 ≠ ch.2)
set_option maxHeartbeats 8000000 in
set_option maxRecDepth 100000 in
theorem order_not0 (a b c : T3) (width : Int) (w0 : World) (hT : Tab w0) (RA : Aside0 (sundialref22_Right.f a.1 a.2.1 a.2.2 = some false)) : Calls Tryd.prog 4 #[setT a, setT b, setT c, .int .i64 width] w0 fun e w' => e = .returned (.bool true) ∧ Below w0.heap.size w0 w' := by
  have hs0 : OrS w0 w0.heap.size (w0.heap.size + 1) (w0.heap.size + 2) a b c (((w0.alloc (.cells (setK a) 24)).alloc (.cells (setK b) 24)).alloc (.cells (setK c) 24)) := by
    have hb : Below w0.heap.size w0 (((w0.alloc (.cells (setK a) 24)).alloc (.cells (setK b) 24)).alloc (.cells (setK c) 24)) := bX_ (bX_ (bX_ (Below.refl _ _) _) _) _
    have b0 := World.alloc_heap_new w0 (.cells (setK a) 24)
    have b1 := World.alloc_heap_new (w0.alloc (.cells (setK a) 24)) (.cells (setK b) 24)
    have b2 := World.alloc_heap_new ((w0.alloc (.cells (setK a) 24)).alloc (.cells (setK b) 24)) (.cells (setK c) 24)
    simp only [World.size_alloc] at b1 b2
    exact ⟨(Below.heap_alloc _ _ _ (by simp; omega)).trans ((Below.heap_alloc _ _ _ (by simp)).trans b0), (Below.heap_alloc _ _ _ (by simp)).trans b1, b2, hT.below hb, hb⟩
  have hlt := hT.lt
  have HS := Aside0.mk hs0
  clear hs0 hT
  go_enter Tryd.func4, Tryd.ntmps4
  go_upto_region 1 with (fail)
  generalize ((w0.alloc (.cells (setK a) 24)).alloc (.cells (setK b) 24)).alloc (.cells (setK c) 24) = w1 at *
  obtain ⟨g0, hg0⟩ : ∃ g, w0.heap.size = g := ⟨_, rfl⟩
  have HG0 := Aside0.mk hg0
  obtain ⟨g1, hg1⟩ : ∃ g, w0.heap.size + 1 = g := ⟨_, rfl⟩
  obtain ⟨g2, hg2⟩ : ∃ g, w0.heap.size + 2 = g := ⟨_, rfl⟩
  have e2 : w0.heap.size + 1 + 1 = g2 := hg2
  (try rw [e2])
  (try rw [hg1])
  rw [hg2, hg1, hg0] at HS
  have HG := Aside0.mk (⟨hlt, by omega, by omega, by omega⟩ : 0 < w0.heap.size ∧ w0.heap.size ≤ g0 ∧ g0 < g1 ∧ g1 < g2)
  (try rw [hg0])
  clear hg0 hg1 hg2 e2 hlt
  refine RS.wp_text [(11, setT a), (12, .bool false), (13, .bool true), (14, .bool true), (15, undef), (16, undef), (17, undef), (18, .bool true), (19, .bool true), (20, undef), (21, undef), (22, undef), (23, .bool true)] (OrS w0 g0 g1 g2 a b c) (by kernel_rfl) (by kernel_rfl) HS.out ?_ ?_
  · exact ⟨RS.StepOK.load 11 (setT a) (by kernel_rfl) (by kernel_rfl) rfl (fun w hS => run_load rfl (by kernel_rfl) (load_set hS.1)),
    RS.StepOK.call 12 6 #[setT a] (.bool false) (by kernel_rfl) (by kernel_rfl) rfl (fun w => by kernel_rfl) (fun w hS => (sundialref22_Right.calls _ _ _ false w RA.out).mono (by rintro e w' ⟨rfl, hb⟩; exact ⟨rfl, hS.met hb⟩)),
    RS.StepOK.pure 13 (by kernel_rfl) rfl (fun w => by kernel_rfl),
    RS.StepOK.pure 14 (by kernel_rfl) rfl (fun w => by kernel_rfl),
    RS.StepOK.off 15 (by kernel_rfl) rfl (by kernel_rfl),
    RS.StepOK.off 16 (by kernel_rfl) rfl (by kernel_rfl),
    RS.StepOK.off 17 (by kernel_rfl) rfl (by kernel_rfl),
    RS.StepOK.pure 18 (by kernel_rfl) rfl (fun w => by kernel_rfl),
    RS.StepOK.pure 19 (by kernel_rfl) rfl (fun w => by kernel_rfl),
    RS.StepOK.off 20 (by kernel_rfl) rfl (by kernel_rfl),
    RS.StepOK.off 21 (by kernel_rfl) rfl (by kernel_rfl),
    RS.StepOK.off 22 (by kernel_rfl) rfl (by kernel_rfl),
    RS.StepOK.pure 23 (by kernel_rfl) rfl (fun w => by kernel_rfl), trivial⟩
  rintro w2 hs
  clear HS
  have HS := Aside0.mk hs
  clear hs
  (try simp only [RS.sets, List.setIfInBounds_toArray, List.set_cons_zero, List.set_cons_succ])
  go_wp2_with (go_at_call 8; refine (wakes_calls _ HS.out.2.2.2.1).mono ?_; rintro e w3 ⟨rfl, hb⟩)
  go_ret
  exact ⟨rfl, below_step HS.out.2.2.2.2 hb⟩
set_option maxHeartbeats 8000000 in
set_option maxRecDepth 100000 in
theorem order_not1 (a b c : T3) (width : Int) (w0 : World) (hT : Tab w0) (RA : Aside0 (sundialref22_Right.f a.1 a.2.1 a.2.2 = some true)) (RB : Aside0 (sundialref22_Right.f b.1 b.2.1 b.2.2 = some false)) : Calls Tryd.prog 4 #[setT a, setT b, setT c, .int .i64 width] w0 fun e w' => e = .returned (.bool true) ∧ Below w0.heap.size w0 w' := by
  have hs0 : OrS w0 w0.heap.size (w0.heap.size + 1) (w0.heap.size + 2) a b c (((w0.alloc (.cells (setK a) 24)).alloc (.cells (setK b) 24)).alloc (.cells (setK c) 24)) := by
    have hb : Below w0.heap.size w0 (((w0.alloc (.cells (setK a) 24)).alloc (.cells (setK b) 24)).alloc (.cells (setK c) 24)) := bX_ (bX_ (bX_ (Below.refl _ _) _) _) _
    have b0 := World.alloc_heap_new w0 (.cells (setK a) 24)
    have b1 := World.alloc_heap_new (w0.alloc (.cells (setK a) 24)) (.cells (setK b) 24)
    have b2 := World.alloc_heap_new ((w0.alloc (.cells (setK a) 24)).alloc (.cells (setK b) 24)) (.cells (setK c) 24)
    simp only [World.size_alloc] at b1 b2
    exact ⟨(Below.heap_alloc _ _ _ (by simp; omega)).trans ((Below.heap_alloc _ _ _ (by simp)).trans b0), (Below.heap_alloc _ _ _ (by simp)).trans b1, b2, hT.below hb, hb⟩
  have hlt := hT.lt
  have HS := Aside0.mk hs0
  clear hs0 hT
  go_enter Tryd.func4, Tryd.ntmps4
  go_upto_region 1 with (fail)
  generalize ((w0.alloc (.cells (setK a) 24)).alloc (.cells (setK b) 24)).alloc (.cells (setK c) 24) = w1 at *
  obtain ⟨g0, hg0⟩ : ∃ g, w0.heap.size = g := ⟨_, rfl⟩
  have HG0 := Aside0.mk hg0
  obtain ⟨g1, hg1⟩ : ∃ g, w0.heap.size + 1 = g := ⟨_, rfl⟩
  obtain ⟨g2, hg2⟩ : ∃ g, w0.heap.size + 2 = g := ⟨_, rfl⟩
  have e2 : w0.heap.size + 1 + 1 = g2 := hg2
  (try rw [e2])
  (try rw [hg1])
  rw [hg2, hg1, hg0] at HS
  have HG := Aside0.mk (⟨hlt, by omega, by omega, by omega⟩ : 0 < w0.heap.size ∧ w0.heap.size ≤ g0 ∧ g0 < g1 ∧ g1 < g2)
  (try rw [hg0])
  clear hg0 hg1 hg2 e2 hlt
  refine RS.wp_text [(11, setT a), (12, .bool true), (13, .bool false), (14, .bool false), (15, setT b), (16, .bool false), (17, .bool true), (18, .bool true), (19, .bool true), (20, undef), (21, undef), (22, undef), (23, .bool true)] (OrS w0 g0 g1 g2 a b c) (by kernel_rfl) (by kernel_rfl) HS.out ?_ ?_
  · exact ⟨RS.StepOK.load 11 (setT a) (by kernel_rfl) (by kernel_rfl) rfl (fun w hS => run_load rfl (by kernel_rfl) (load_set hS.1)),
    RS.StepOK.call 12 6 #[setT a] (.bool true) (by kernel_rfl) (by kernel_rfl) rfl (fun w => by kernel_rfl) (fun w hS => (sundialref22_Right.calls _ _ _ true w RA.out).mono (by rintro e w' ⟨rfl, hb⟩; exact ⟨rfl, hS.met hb⟩)),
    RS.StepOK.pure 13 (by kernel_rfl) rfl (fun w => by kernel_rfl),
    RS.StepOK.pure 14 (by kernel_rfl) rfl (fun w => by kernel_rfl),
    RS.StepOK.load 15 (setT b) (by kernel_rfl) (by kernel_rfl) rfl (fun w hS => run_load rfl (by kernel_rfl) (load_set hS.2.1)),
    RS.StepOK.call 16 6 #[setT b] (.bool false) (by kernel_rfl) (by kernel_rfl) rfl (fun w => by kernel_rfl) (fun w hS => (sundialref22_Right.calls _ _ _ false w RB.out).mono (by rintro e w' ⟨rfl, hb⟩; exact ⟨rfl, hS.met hb⟩)),
    RS.StepOK.pure 17 (by kernel_rfl) rfl (fun w => by kernel_rfl),
    RS.StepOK.pure 18 (by kernel_rfl) rfl (fun w => by kernel_rfl),
    RS.StepOK.pure 19 (by kernel_rfl) rfl (fun w => by kernel_rfl),
    RS.StepOK.off 20 (by kernel_rfl) rfl (by kernel_rfl),
    RS.StepOK.off 21 (by kernel_rfl) rfl (by kernel_rfl),
    RS.StepOK.off 22 (by kernel_rfl) rfl (by kernel_rfl),
    RS.StepOK.pure 23 (by kernel_rfl) rfl (fun w => by kernel_rfl), trivial⟩
  rintro w2 hs
  clear HS
  have HS := Aside0.mk hs
  clear hs
  (try simp only [RS.sets, List.setIfInBounds_toArray, List.set_cons_zero, List.set_cons_succ])
  go_wp2_with (go_at_call 8; refine (wakes_calls _ HS.out.2.2.2.1).mono ?_; rintro e w3 ⟨rfl, hb⟩)
  go_ret
  exact ⟨rfl, below_step HS.out.2.2.2.2 hb⟩
set_option maxHeartbeats 8000000 in
set_option maxRecDepth 100000 in
theorem order_not2 (a b c : T3) (width : Int) (w0 : World) (hT : Tab w0) (RA : Aside0 (sundialref22_Right.f a.1 a.2.1 a.2.2 = some true)) (RB : Aside0 (sundialref22_Right.f b.1 b.2.1 b.2.2 = some true)) (RC : Aside0 (sundialref22_Right.f c.1 c.2.1 c.2.2 = some false)) : Calls Tryd.prog 4 #[setT a, setT b, setT c, .int .i64 width] w0 fun e w' => e = .returned (.bool true) ∧ Below w0.heap.size w0 w' := by
  have hs0 : OrS w0 w0.heap.size (w0.heap.size + 1) (w0.heap.size + 2) a b c (((w0.alloc (.cells (setK a) 24)).alloc (.cells (setK b) 24)).alloc (.cells (setK c) 24)) := by
    have hb : Below w0.heap.size w0 (((w0.alloc (.cells (setK a) 24)).alloc (.cells (setK b) 24)).alloc (.cells (setK c) 24)) := bX_ (bX_ (bX_ (Below.refl _ _) _) _) _
    have b0 := World.alloc_heap_new w0 (.cells (setK a) 24)
    have b1 := World.alloc_heap_new (w0.alloc (.cells (setK a) 24)) (.cells (setK b) 24)
    have b2 := World.alloc_heap_new ((w0.alloc (.cells (setK a) 24)).alloc (.cells (setK b) 24)) (.cells (setK c) 24)
    simp only [World.size_alloc] at b1 b2
    exact ⟨(Below.heap_alloc _ _ _ (by simp; omega)).trans ((Below.heap_alloc _ _ _ (by simp)).trans b0), (Below.heap_alloc _ _ _ (by simp)).trans b1, b2, hT.below hb, hb⟩
  have hlt := hT.lt
  have HS := Aside0.mk hs0
  clear hs0 hT
  go_enter Tryd.func4, Tryd.ntmps4
  go_upto_region 1 with (fail)
  generalize ((w0.alloc (.cells (setK a) 24)).alloc (.cells (setK b) 24)).alloc (.cells (setK c) 24) = w1 at *
  obtain ⟨g0, hg0⟩ : ∃ g, w0.heap.size = g := ⟨_, rfl⟩
  have HG0 := Aside0.mk hg0
  obtain ⟨g1, hg1⟩ : ∃ g, w0.heap.size + 1 = g := ⟨_, rfl⟩
  obtain ⟨g2, hg2⟩ : ∃ g, w0.heap.size + 2 = g := ⟨_, rfl⟩
  have e2 : w0.heap.size + 1 + 1 = g2 := hg2
  (try rw [e2])
  (try rw [hg1])
  rw [hg2, hg1, hg0] at HS
  have HG := Aside0.mk (⟨hlt, by omega, by omega, by omega⟩ : 0 < w0.heap.size ∧ w0.heap.size ≤ g0 ∧ g0 < g1 ∧ g1 < g2)
  (try rw [hg0])
  clear hg0 hg1 hg2 e2 hlt
  refine RS.wp_text [(11, setT a), (12, .bool true), (13, .bool false), (14, .bool false), (15, setT b), (16, .bool true), (17, .bool false), (18, .bool false), (19, .bool false), (20, setT c), (21, .bool false), (22, .bool true), (23, .bool true)] (OrS w0 g0 g1 g2 a b c) (by kernel_rfl) (by kernel_rfl) HS.out ?_ ?_
  · exact ⟨RS.StepOK.load 11 (setT a) (by kernel_rfl) (by kernel_rfl) rfl (fun w hS => run_load rfl (by kernel_rfl) (load_set hS.1)),
    RS.StepOK.call 12 6 #[setT a] (.bool true) (by kernel_rfl) (by kernel_rfl) rfl (fun w => by kernel_rfl) (fun w hS => (sundialref22_Right.calls _ _ _ true w RA.out).mono (by rintro e w' ⟨rfl, hb⟩; exact ⟨rfl, hS.met hb⟩)),
    RS.StepOK.pure 13 (by kernel_rfl) rfl (fun w => by kernel_rfl),
    RS.StepOK.pure 14 (by kernel_rfl) rfl (fun w => by kernel_rfl),
    RS.StepOK.load 15 (setT b) (by kernel_rfl) (by kernel_rfl) rfl (fun w hS => run_load rfl (by kernel_rfl) (load_set hS.2.1)),
    RS.StepOK.call 16 6 #[setT b] (.bool true) (by kernel_rfl) (by kernel_rfl) rfl (fun w => by kernel_rfl) (fun w hS => (sundialref22_Right.calls _ _ _ true w RB.out).mono (by rintro e w' ⟨rfl, hb⟩; exact ⟨rfl, hS.met hb⟩)),
    RS.StepOK.pure 17 (by kernel_rfl) rfl (fun w => by kernel_rfl),
    RS.StepOK.pure 18 (by kernel_rfl) rfl (fun w => by kernel_rfl),
    RS.StepOK.pure 19 (by kernel_rfl) rfl (fun w => by kernel_rfl),
    RS.StepOK.load 20 (setT c) (by kernel_rfl) (by kernel_rfl) rfl (fun w hS => run_load rfl (by kernel_rfl) (load_set hS.2.2.1)),
    RS.StepOK.call 21 6 #[setT c] (.bool false) (by kernel_rfl) (by kernel_rfl) rfl (fun w => by kernel_rfl) (fun w hS => (sundialref22_Right.calls _ _ _ false w RC.out).mono (by rintro e w' ⟨rfl, hb⟩; exact ⟨rfl, hS.met hb⟩)),
    RS.StepOK.pure 22 (by kernel_rfl) rfl (fun w => by kernel_rfl),
    RS.StepOK.pure 23 (by kernel_rfl) rfl (fun w => by kernel_rfl), trivial⟩
  rintro w2 hs
  clear HS
  have HS := Aside0.mk hs
  clear hs
  (try simp only [RS.sets, List.setIfInBounds_toArray, List.set_cons_zero, List.set_cons_succ])
  go_wp2_with (go_at_call 8; refine (wakes_calls _ HS.out.2.2.2.1).mono ?_; rintro e w3 ⟨rfl, hb⟩)
  go_ret
  exact ⟨rfl, below_step HS.out.2.2.2.2 hb⟩
set_option maxHeartbeats 8000000 in
set_option maxRecDepth 100000 in
theorem order_true (a b c : T3) (width : Int) (w0 : World) (hT : Tab w0) (RA : Aside0 (sundialref22_Right.f a.1 a.2.1 a.2.2 = some true)) (RB : Aside0 (sundialref22_Right.f b.1 b.2.1 b.2.2 = some true)) (RC : Aside0 (sundialref22_Right.f c.1 c.2.1 c.2.2 = some true)) (ha : Ok a) (hb : Ok b) (hc : Ok c) : Calls Tryd.prog 4 #[setT a, setT b, setT c, .int .i64 width] w0 fun e w' => e = .returned (.bool true) ∧ Below w0.heap.size w0 w' := by
  have OA := Aside0.mk ha
  have OB := Aside0.mk hb
  have OC := Aside0.mk hc
  have hm := maskP width
  obtain ⟨ab, hab⟩ : ∃ t, joinT a b = t := ⟨_, rfl⟩
  obtain ⟨cb, hcb⟩ : ∃ t, joinT c b = t := ⟨_, rfl⟩
  obtain ⟨one, hone⟩ : ∃ t, joinT ab c = t := ⟨_, rfl⟩
  have oab : Ok ab := by rw [← hab]; exact join_ok ha hb
  have ocb : Ok cb := by rw [← hcb]; exact join_ok hc hb
  have oone : Ok one := by rw [← hone]; exact join_ok oab hc
  have htwo : joinT a cb = one := by rw [← hone, ← hab, ← hcb]; exact (joinT_assoc ha hb hc).symm
  have OAB := Aside0.mk oab
  have OCB := Aside0.mk ocb
  have OO := Aside0.mk oone
  have I1 := Aside0.mk (show inT a one = true by rw [← hone]; exact inT_trans (by rw [← hab]; exact inT_join1 ha hb) (inT_join1 oab hc))
  have JAB := Aside0.mk hab
  have JCB := Aside0.mk hcb
  have JONE := Aside0.mk hone
  have JTWO := Aside0.mk htwo
  have HM := Aside0.mk hm
  clear ha hb hc hab hcb hone oab ocb oone htwo hm
  have hs0 : OrS w0 w0.heap.size (w0.heap.size + 1) (w0.heap.size + 2) a b c (((w0.alloc (.cells (setK a) 24)).alloc (.cells (setK b) 24)).alloc (.cells (setK c) 24)) := by
    have hb : Below w0.heap.size w0 (((w0.alloc (.cells (setK a) 24)).alloc (.cells (setK b) 24)).alloc (.cells (setK c) 24)) := bX_ (bX_ (bX_ (Below.refl _ _) _) _) _
    have b0 := World.alloc_heap_new w0 (.cells (setK a) 24)
    have b1 := World.alloc_heap_new (w0.alloc (.cells (setK a) 24)) (.cells (setK b) 24)
    have b2 := World.alloc_heap_new ((w0.alloc (.cells (setK a) 24)).alloc (.cells (setK b) 24)) (.cells (setK c) 24)
    simp only [World.size_alloc] at b1 b2
    exact ⟨(Below.heap_alloc _ _ _ (by simp; omega)).trans ((Below.heap_alloc _ _ _ (by simp)).trans b0), (Below.heap_alloc _ _ _ (by simp)).trans b1, b2, hT.below hb, hb⟩
  have hlt := hT.lt
  have HS := Aside0.mk hs0
  clear hs0 hT
  go_enter Tryd.func4, Tryd.ntmps4
  go_upto_region 1 with (fail)
  generalize ((w0.alloc (.cells (setK a) 24)).alloc (.cells (setK b) 24)).alloc (.cells (setK c) 24) = w1 at *
  obtain ⟨g0, hg0⟩ : ∃ g, w0.heap.size = g := ⟨_, rfl⟩
  have HG0 := Aside0.mk hg0
  obtain ⟨g1, hg1⟩ : ∃ g, w0.heap.size + 1 = g := ⟨_, rfl⟩
  obtain ⟨g2, hg2⟩ : ∃ g, w0.heap.size + 2 = g := ⟨_, rfl⟩
  have e2 : w0.heap.size + 1 + 1 = g2 := hg2
  (try rw [e2])
  (try rw [hg1])
  rw [hg2, hg1, hg0] at HS
  have HG := Aside0.mk (⟨hlt, by omega, by omega, by omega⟩ : 0 < w0.heap.size ∧ w0.heap.size ≤ g0 ∧ g0 < g1 ∧ g1 < g2)
  (try rw [hg0])
  clear hg0 hg1 hg2 e2 hlt
  refine RS.wp_text [(11, setT a), (12, .bool true), (13, .bool false), (14, .bool false), (15, setT b), (16, .bool true), (17, .bool false), (18, .bool false), (19, .bool false), (20, setT c), (21, .bool true), (22, .bool false), (23, .bool false)] (OrS w0 g0 g1 g2 a b c) (by kernel_rfl) (by kernel_rfl) HS.out ?_ ?_
  · exact ⟨RS.StepOK.load 11 (setT a) (by kernel_rfl) (by kernel_rfl) rfl (fun w hS => run_load rfl (by kernel_rfl) (load_set hS.1)),
    RS.StepOK.call 12 6 #[setT a] (.bool true) (by kernel_rfl) (by kernel_rfl) rfl (fun w => by kernel_rfl) (fun w hS => (sundialref22_Right.calls _ _ _ true w RA.out).mono (by rintro e w' ⟨rfl, hb⟩; exact ⟨rfl, hS.met hb⟩)),
    RS.StepOK.pure 13 (by kernel_rfl) rfl (fun w => by kernel_rfl),
    RS.StepOK.pure 14 (by kernel_rfl) rfl (fun w => by kernel_rfl),
    RS.StepOK.load 15 (setT b) (by kernel_rfl) (by kernel_rfl) rfl (fun w hS => run_load rfl (by kernel_rfl) (load_set hS.2.1)),
    RS.StepOK.call 16 6 #[setT b] (.bool true) (by kernel_rfl) (by kernel_rfl) rfl (fun w => by kernel_rfl) (fun w hS => (sundialref22_Right.calls _ _ _ true w RB.out).mono (by rintro e w' ⟨rfl, hb⟩; exact ⟨rfl, hS.met hb⟩)),
    RS.StepOK.pure 17 (by kernel_rfl) rfl (fun w => by kernel_rfl),
    RS.StepOK.pure 18 (by kernel_rfl) rfl (fun w => by kernel_rfl),
    RS.StepOK.pure 19 (by kernel_rfl) rfl (fun w => by kernel_rfl),
    RS.StepOK.load 20 (setT c) (by kernel_rfl) (by kernel_rfl) rfl (fun w hS => run_load rfl (by kernel_rfl) (load_set hS.2.2.1)),
    RS.StepOK.call 21 6 #[setT c] (.bool true) (by kernel_rfl) (by kernel_rfl) rfl (fun w => by kernel_rfl) (fun w hS => (sundialref22_Right.calls _ _ _ true w RC.out).mono (by rintro e w' ⟨rfl, hb⟩; exact ⟨rfl, hS.met hb⟩)),
    RS.StepOK.pure 22 (by kernel_rfl) rfl (fun w => by kernel_rfl),
    RS.StepOK.pure 23 (by kernel_rfl) rfl (fun w => by kernel_rfl), trivial⟩
  rintro w2 hs
  clear HS
  have HS := Aside0.mk hs
  clear hs
  (try simp only [RS.sets, List.setIfInBounds_toArray, List.set_cons_zero, List.set_cons_succ])
  go_upto_region 3 with (fail)
  refine RS.wp_choice (C := Nat × Nat) (by kernel_rfl) (fun ch => (9, .pointer (some ⟨ch.1, 0, none⟩)) :: (10, .pointer (some ⟨ch.2, 0, none⟩)) :: [(25, setT a), (26, setT b), (27, setT ab), (28, setT c), (29, setT one), (30, setT a), (31, setT c), (32, setT b), (33, setT cb), (34, setT one)]) (OrN w0 g0 g1 g2 a b c one one) (by kernel_rfl) (fun ch => by kernel_rfl) (0, 0) (fun f hf => ?_) ?_ ?_
  · exact ⟨HS.out.drew, fun h => (by rw [hf 10 (by decide)] at h; cases h), fun h => (by rw [hf 11 (by decide)] at h; cases h), fun h => (by rw [hf 10 (by decide)] at h; cases h)⟩
  · exact ⟨RS.StepC.of (fun ch => RS.StepE.load 25 (setT a) (by kernel_rfl) (by kernel_rfl) rfl (fun f w h => h) (fun f w p1 p2 h => run_load rfl (by kernel_rfl) (load_set h.1.1))),
    RS.StepC.of (fun ch => RS.StepE.load 26 (setT b) (by kernel_rfl) (by kernel_rfl) rfl (fun f w h => h) (fun f w p1 p2 h => run_load rfl (by kernel_rfl) (load_set h.1.2.1))),
    RS.StepC.of (fun ch => RS.StepE.call 27 10 #[setT a, setT b] (setT ab) (by kernel_rfl) (by kernel_rfl) rfl (fun w => by kernel_rfl) (fun g w h0 p1 p2 h => (join_calls OA.out OB.out w).mono (by rw [JAB.out]; rintro e w' ⟨rfl, hb⟩; exact ⟨rfl, h.1.met hb, h.2.1.met hb, h.2.2.1.met hb, h.2.2.2⟩))),
    RS.StepC.of (fun ch => RS.StepE.load 28 (setT c) (by kernel_rfl) (by kernel_rfl) rfl (fun f w h => h) (fun f w p1 p2 h => run_load rfl (by kernel_rfl) (load_set h.1.2.2.1))),
    RS.StepC.of (fun ch => RS.StepE.call 29 10 #[setT ab, setT c] (setT one) (by kernel_rfl) (by kernel_rfl) rfl (fun w => by kernel_rfl) (fun g w h0 p1 p2 h => (join_calls OAB.out OC.out w).mono (by rw [JONE.out]; rintro e w' ⟨rfl, hb⟩; exact ⟨rfl, h.1.met hb, h.2.1.met hb, h.2.2.1.met hb, h.2.2.2⟩))),
    RS.StepC.of (fun ch => RS.StepE.load 30 (setT a) (by kernel_rfl) (by kernel_rfl) rfl (fun f w h => h) (fun f w p1 p2 h => run_load rfl (by kernel_rfl) (load_set h.1.1))),
    RS.StepC.of (fun ch => RS.StepE.load 31 (setT c) (by kernel_rfl) (by kernel_rfl) rfl (fun f w h => h) (fun f w p1 p2 h => run_load rfl (by kernel_rfl) (load_set h.1.2.2.1))),
    RS.StepC.of (fun ch => RS.StepE.load 32 (setT b) (by kernel_rfl) (by kernel_rfl) rfl (fun f w h => h) (fun f w p1 p2 h => run_load rfl (by kernel_rfl) (load_set h.1.2.1))),
    RS.StepC.of (fun ch => RS.StepE.call 33 10 #[setT c, setT b] (setT cb) (by kernel_rfl) (by kernel_rfl) rfl (fun w => by kernel_rfl) (fun g w h0 p1 p2 h => (join_calls OC.out OB.out w).mono (by rw [JCB.out]; rintro e w' ⟨rfl, hb⟩; exact ⟨rfl, h.1.met hb, h.2.1.met hb, h.2.2.1.met hb, h.2.2.2⟩))),
    RS.StepC.of (fun ch => RS.StepE.call 34 10 #[setT a, setT cb] (setT one) (by kernel_rfl) (by kernel_rfl) rfl (fun w => by kernel_rfl) (fun g w h0 p1 p2 h => (join_calls OA.out OCB.out w).mono (by rw [JTWO.out]; rintro e w' ⟨rfl, hb⟩; exact ⟨rfl, h.1.met hb, h.2.1.met hb, h.2.2.1.met hb, h.2.2.2⟩))),
    RS.StepC.choose (fun ch => by kernel_rfl) (fun g ch w h0 p1 p2 h => by
      have h0 : g 10 = false := h0
      have e12 : g 12 = false := p2 12 (by kernel_rfl) (by decide)
      have hlt := h.1.lt
      have hb : Below w.heap.size w (w.alloc (.cells (setC 0 0 0) 24)) := bX_ (Below.refl _ _) _
      have hn := World.alloc_heap_new w (.cells (setC 0 0 0) 24)
      refine ⟨_, _, (w.heap.size, ch.2), run_alloc24 rfl, fun d hd => by cases hd; kernel_rfl, RS.Agree.slot (n := 10) (k := 9) (md := .any) (by kernel_rfl) rfl rfl h0 (fun d hne => RS.sets_but _ _ 9 _ _ d hne), ?_⟩
      refine ⟨h.1.met hb, ?_, ?_, ?_⟩
      · intro _
        show g2 < w.heap.size ∧ _ = some (Obj.cells (bif g 12 then _ else _) 24 (0, 0))
        rw [e12]
        exact ⟨hlt, hn⟩
      · exact h.2.2.1.met hb
      · intro _ e11
        have := (Array.getElem?_eq_some_iff.1 (h.2.2.1 e11).2).1
        show w.heap.size ≠ ch.2
        omega),
    RS.StepC.choose (fun ch => by kernel_rfl) (fun g ch w h0 p1 p2 h => by
      have h0 : g 11 = false := h0
      have e12 : g 13 = false := p2 13 (by kernel_rfl) (by decide)
      have hlt := h.1.lt
      have hb : Below w.heap.size w (w.alloc (.cells (setC 0 0 0) 24)) := bX_ (Below.refl _ _) _
      have hn := World.alloc_heap_new w (.cells (setC 0 0 0) 24)
      refine ⟨_, _, (ch.1, w.heap.size), run_alloc24 rfl, fun d hd => by cases hd; kernel_rfl, RS.Agree.slot (n := 11) (k := 10) (md := .any) (by kernel_rfl) rfl rfl h0 (fun d hne => sets_but2 _ _ 9 10 _ _ _ d hne), ?_⟩
      refine ⟨h.1.met hb, ?_, ?_, ?_⟩
      · exact h.2.1.met hb
      · intro _
        show g2 < w.heap.size ∧ _ = some (Obj.cells (bif g 13 then _ else _) 24 (0, 0))
        rw [e12]
        exact ⟨hlt, hn⟩
      · intro e10 _
        have := (Array.getElem?_eq_some_iff.1 (h.2.1 e10).2).1
        show ch.1 ≠ w.heap.size
        omega),
    RS.StepC.of (fun ch => RS.StepE.event undef (by intro d hd; cases hd) (by kernel_rfl) (fun g w h0 p1 p2 h => by
      have h0 : g 12 = false := h0
      have e10 : g 10 = true := p1 10 (by kernel_rfl)
      have e11 : g 11 = true := p1 11 (by kernel_rfl)
      obtain ⟨hx, hm⟩ := h.2.1 e10
      rw [h0] at hm
      have hm : w.heap[ch.1]? = some (.cells (setC 0 0 0) 24 (0, 0)) := hm
      have hne := h.2.2.2 e10 e11
      refine ⟨_, .inr ⟨run_store_set (g := ch.1) (s := one.1) (l := one.2.1) (h := one.2.2) rfl (by kernel_rfl) (by kernel_rfl) hm, rfl⟩, h.1.set HG.out hx _ _ _, ?_, ?_, fun _ _ => hne⟩
      · intro _
        exact ⟨hx, (set3 hm _ _ _).1⟩
      · intro _
        exact ⟨(h.2.2.1 e11).1, heap_set3 (h.2.2.1 e11).2 (by omega) _ _ _⟩)),
    RS.StepC.of (fun ch => RS.StepE.event undef (by intro d hd; cases hd) (by kernel_rfl) (fun g w h0 p1 p2 h => by
      have h0 : g 13 = false := h0
      have e10 : g 10 = true := p1 10 (by kernel_rfl)
      have e11 : g 11 = true := p1 11 (by kernel_rfl)
      obtain ⟨hx, hm⟩ := h.2.2.1 e11
      rw [h0] at hm
      have hm : w.heap[ch.2]? = some (.cells (setC 0 0 0) 24 (0, 0)) := hm
      have hne := h.2.2.2 e10 e11
      refine ⟨_, .inr ⟨run_store_set (g := ch.2) (s := one.1) (l := one.2.1) (h := one.2.2) rfl (by kernel_rfl) (by kernel_rfl) hm, rfl⟩, h.1.set HG.out hx _ _ _, ?_, ?_, fun _ _ => hne⟩
      · intro _
        exact ⟨(h.2.1 e10).1, heap_set3 (h.2.1 e10).2 (by omega) _ _ _⟩
      · intro _
        exact ⟨hx, (set3 hm _ _ _).1⟩)), trivial⟩
  rintro f ⟨ga, gb⟩ w3 hf hs
  obtain ⟨hs1, hs2, hs3, hs4⟩ := hs
  simp only [NewB, hf, cond_true, forall_const] at hs2 hs3
  clear HS
  have HS := Aside0.mk (show OrT w0 g0 g1 g2 ga gb a b c one w3 from ⟨hs1, hs2.2, hs3.2⟩)
  clear hs1 hs2 hs3 hs4
  (try simp only [RS.sets, List.setIfInBounds_toArray, List.set_cons_zero, List.set_cons_succ])
  obtain ⟨bI, hbI⟩ : ∃ x, inT a b = x := ⟨_, rfl⟩
  have BI := Aside0.mk hbI
  clear hbI
  cases bI
  · skip
    go_upto_region 4 with (fail)
    refine RS.wp_drawn (by kernel_rfl) [(35, setT one), (36, setT one), (37, .bool false), (38, .bool false), (39, setT a), (40, setT b), (41, .int .i64 width), (42, setT (addT (cutT a (maskF width)) (cutT b (maskF width)) (maskF width))), (43, setT b), (44, setT a), (45, .int .i64 width), (46, setT (addT (cutT a (maskF width)) (cutT b (maskF width)) (maskF width))), (47, .bool false), (48, .bool false), (49, .bool false), (50, setT a), (51, setT one), (52, .bool true), (53, .bool false), (54, .bool false), (55, .bool false), (56, setT a), (57, setT b), (58, .bool false), (59, .bool false), (60, undef), (61, undef), (62, undef), (63, undef), (64, undef), (65, undef), (66, .bool false), (67, .bool false)] (OrT w0 g0 g1 g2 ga gb a b c one) (by kernel_rfl) (by kernel_rfl) HS.out.drew ?_ ?_
    · exact ⟨RS.StepOK.load 35 (setT one) (by kernel_rfl) (by kernel_rfl) rfl (fun w hS => run_load rfl (by kernel_rfl) (load_set hS.2.1)),
        RS.StepOK.load 36 (setT one) (by kernel_rfl) (by kernel_rfl) rfl (fun w hS => run_load rfl (by kernel_rfl) (load_set hS.2.2)),
        RS.StepOK.load 37 (.bool false) (by kernel_rfl) (by kernel_rfl) rfl (fun w hS => run_bin (a := setT one) (b := setT one) rfl (by kernel_rfl) (by kernel_rfl) (by kernel_rfl) (neq_same one w)),
        RS.StepOK.pure 38 (by kernel_rfl) rfl (fun w => by kernel_rfl),
        RS.StepOK.load 39 (setT a) (by kernel_rfl) (by kernel_rfl) rfl (fun w hS => run_load rfl (by kernel_rfl) (load_set hS.1.1)),
        RS.StepOK.load 40 (setT b) (by kernel_rfl) (by kernel_rfl) rfl (fun w hS => run_load rfl (by kernel_rfl) (load_set hS.1.2.1)),
        RS.StepOK.pure 41 (by kernel_rfl) rfl (fun w => by kernel_rfl),
        RS.StepOK.call 42 14 #[setT a, setT b, .int .i64 width] (setT (addT (cutT a (maskF width)) (cutT b (maskF width)) (maskF width))) (by kernel_rfl) (by kernel_rfl) rfl (fun w => by kernel_rfl) (fun w hS => (add_calls a b OA.out OB.out width w hS.1.2.2.2.1).mono (by rintro e w' ⟨rfl, hb⟩; exact ⟨rfl, hS.met hb⟩)),
        RS.StepOK.load 43 (setT b) (by kernel_rfl) (by kernel_rfl) rfl (fun w hS => run_load rfl (by kernel_rfl) (load_set hS.1.2.1)),
        RS.StepOK.load 44 (setT a) (by kernel_rfl) (by kernel_rfl) rfl (fun w hS => run_load rfl (by kernel_rfl) (load_set hS.1.1)),
        RS.StepOK.pure 45 (by kernel_rfl) rfl (fun w => by kernel_rfl),
        RS.StepOK.call 46 14 #[setT b, setT a, .int .i64 width] (setT (addT (cutT a (maskF width)) (cutT b (maskF width)) (maskF width))) (by kernel_rfl) (by kernel_rfl) rfl (fun w => by kernel_rfl) (fun w hS => (add_calls b a OB.out OA.out width w hS.1.2.2.2.1).mono (by rw [add_comm3 (cutT b (maskF width))]; rintro e w' ⟨rfl, hb⟩; exact ⟨rfl, hS.met hb⟩)),
        RS.StepOK.load 47 (.bool false) (by kernel_rfl) (by kernel_rfl) rfl (fun w hS => run_bin (a := setT (addT (cutT a (maskF width)) (cutT b (maskF width)) (maskF width))) (b := setT (addT (cutT a (maskF width)) (cutT b (maskF width)) (maskF width))) rfl (by kernel_rfl) (by kernel_rfl) (by kernel_rfl) (neq_same (addT (cutT a (maskF width)) (cutT b (maskF width)) (maskF width)) w)),
        RS.StepOK.pure 48 (by kernel_rfl) rfl (fun w => by kernel_rfl),
        RS.StepOK.pure 49 (by kernel_rfl) rfl (fun w => by kernel_rfl),
        RS.StepOK.load 50 (setT a) (by kernel_rfl) (by kernel_rfl) rfl (fun w hS => run_load rfl (by kernel_rfl) (load_set hS.1.1)),
        RS.StepOK.load 51 (setT one) (by kernel_rfl) (by kernel_rfl) rfl (fun w hS => run_load rfl (by kernel_rfl) (load_set hS.2.1)),
        RS.StepOK.call 52 11 #[setT a, setT one] (.bool true) (by kernel_rfl) (by kernel_rfl) rfl (fun w => by kernel_rfl) (fun w hS => (in_calls (a := a) (b := one) OA.out OO.out w).mono (by rw [I1.out]; rintro e w' ⟨rfl, hb⟩; exact ⟨rfl, hS.met hb⟩)),
        RS.StepOK.pure 53 (by kernel_rfl) rfl (fun w => by kernel_rfl),
        RS.StepOK.pure 54 (by kernel_rfl) rfl (fun w => by kernel_rfl),
        RS.StepOK.pure 55 (by kernel_rfl) rfl (fun w => by kernel_rfl),
        RS.StepOK.load 56 (setT a) (by kernel_rfl) (by kernel_rfl) rfl (fun w hS => run_load rfl (by kernel_rfl) (load_set hS.1.1)),
        RS.StepOK.load 57 (setT b) (by kernel_rfl) (by kernel_rfl) rfl (fun w hS => run_load rfl (by kernel_rfl) (load_set hS.1.2.1)),
        RS.StepOK.call 58 11 #[setT a, setT b] (.bool false) (by kernel_rfl) (by kernel_rfl) rfl (fun w => by kernel_rfl) (fun w hS => (in_calls (a := a) (b := b) OA.out OB.out w).mono (by rw [BI.out]; rintro e w' ⟨rfl, hb⟩; exact ⟨rfl, hS.met hb⟩)),
        RS.StepOK.pure 59 (by kernel_rfl) rfl (fun w => by kernel_rfl),
        RS.StepOK.off 60 (by kernel_rfl) rfl (by kernel_rfl),
        RS.StepOK.off 61 (by kernel_rfl) rfl (by kernel_rfl),
        RS.StepOK.off 62 (by kernel_rfl) rfl (by kernel_rfl),
        RS.StepOK.off 63 (by kernel_rfl) rfl (by kernel_rfl),
        RS.StepOK.off 64 (by kernel_rfl) rfl (by kernel_rfl),
        RS.StepOK.off 65 (by kernel_rfl) rfl (by kernel_rfl),
        RS.StepOK.pure 66 (by kernel_rfl) rfl (fun w => by kernel_rfl),
        RS.StepOK.pure 67 (by kernel_rfl) rfl (fun w => by kernel_rfl), trivial⟩
    rintro w4 hs
    clear HS
    have HS := Aside0.mk hs
    clear hs
    (try simp only [RS.sets, List.setIfInBounds_toArray, List.set_cons_zero, List.set_cons_succ])
    go_upto_region 6 with (fail)
    refine RS.wp_drawn (by kernel_rfl) [(68, setT a), (69, setT b), (70, .bool false), (71, .bool false), (72, undef), (73, undef), (74, undef), (75, undef), (76, undef), (77, undef), (78, undef), (79, undef), (80, undef), (81, undef), (82, undef), (83, undef), (84, undef), (85, undef), (86, undef), (87, undef), (88, undef), (89, undef), (90, undef), (91, undef), (92, undef), (93, undef), (94, undef), (95, undef), (96, undef), (97, undef), (98, undef), (99, undef), (100, undef), (101, undef), (102, undef), (103, undef), (104, .bool false)] (OrT w0 g0 g1 g2 ga gb a b c one) (by kernel_rfl) (by kernel_rfl) HS.out.drew ?_ ?_
    · exact ⟨RS.StepOK.load 68 (setT a) (by kernel_rfl) (by kernel_rfl) rfl (fun w hS => run_load rfl (by kernel_rfl) (load_set hS.1.1)),
        RS.StepOK.load 69 (setT b) (by kernel_rfl) (by kernel_rfl) rfl (fun w hS => run_load rfl (by kernel_rfl) (load_set hS.1.2.1)),
        RS.StepOK.call 70 11 #[setT a, setT b] (.bool false) (by kernel_rfl) (by kernel_rfl) rfl (fun w => by kernel_rfl) (fun w hS => (in_calls (a := a) (b := b) OA.out OB.out w).mono (by rw [BI.out]; rintro e w' ⟨rfl, hb⟩; exact ⟨rfl, hS.met hb⟩)),
        RS.StepOK.pure 71 (by kernel_rfl) rfl (fun w => by kernel_rfl),
        RS.StepOK.off 72 (by kernel_rfl) rfl (by kernel_rfl),
        RS.StepOK.off 73 (by kernel_rfl) rfl (by kernel_rfl),
        RS.StepOK.off 74 (by kernel_rfl) rfl (by kernel_rfl),
        RS.StepOK.off 75 (by kernel_rfl) rfl (by kernel_rfl),
        RS.StepOK.off 76 (by kernel_rfl) rfl (by kernel_rfl),
        RS.StepOK.off 77 (by kernel_rfl) rfl (by kernel_rfl),
        RS.StepOK.off 78 (by kernel_rfl) rfl (by kernel_rfl),
        RS.StepOK.off 79 (by kernel_rfl) rfl (by kernel_rfl),
        RS.StepOK.off 80 (by kernel_rfl) rfl (by kernel_rfl),
        RS.StepOK.off 81 (by kernel_rfl) rfl (by kernel_rfl),
        RS.StepOK.off 82 (by kernel_rfl) rfl (by kernel_rfl),
        RS.StepOK.off 83 (by kernel_rfl) rfl (by kernel_rfl),
        RS.StepOK.off 84 (by kernel_rfl) rfl (by kernel_rfl),
        RS.StepOK.off 85 (by kernel_rfl) rfl (by kernel_rfl),
        RS.StepOK.off 86 (by kernel_rfl) rfl (by kernel_rfl),
        RS.StepOK.off 87 (by kernel_rfl) rfl (by kernel_rfl),
        RS.StepOK.off 88 (by kernel_rfl) rfl (by kernel_rfl),
        RS.StepOK.off 89 (by kernel_rfl) rfl (by kernel_rfl),
        RS.StepOK.off 90 (by kernel_rfl) rfl (by kernel_rfl),
        RS.StepOK.off 91 (by kernel_rfl) rfl (by kernel_rfl),
        RS.StepOK.off 92 (by kernel_rfl) rfl (by kernel_rfl),
        RS.StepOK.off 93 (by kernel_rfl) rfl (by kernel_rfl),
        RS.StepOK.off 94 (by kernel_rfl) rfl (by kernel_rfl),
        RS.StepOK.off 95 (by kernel_rfl) rfl (by kernel_rfl),
        RS.StepOK.off 96 (by kernel_rfl) rfl (by kernel_rfl),
        RS.StepOK.off 97 (by kernel_rfl) rfl (by kernel_rfl),
        RS.StepOK.off 98 (by kernel_rfl) rfl (by kernel_rfl),
        RS.StepOK.off 99 (by kernel_rfl) rfl (by kernel_rfl),
        RS.StepOK.off 100 (by kernel_rfl) rfl (by kernel_rfl),
        RS.StepOK.off 101 (by kernel_rfl) rfl (by kernel_rfl),
        RS.StepOK.off 102 (by kernel_rfl) rfl (by kernel_rfl),
        RS.StepOK.off 103 (by kernel_rfl) rfl (by kernel_rfl),
        RS.StepOK.pure 104 (by kernel_rfl) rfl (fun w => by kernel_rfl), trivial⟩
    rintro w5 hs
    clear HS
    have HS := Aside0.mk hs
    clear hs
    (try simp only [RS.sets, List.setIfInBounds_toArray, List.set_cons_zero, List.set_cons_succ])
    go_upto_region 8 with (fail)
    refine RS.wp_drawn (by kernel_rfl) [(105, setT a), (106, .int .i64 width), (107, setT (cutT a (maskF width))), (108, .int .i64 width), (109, setT (cutT a (maskF width))), (110, setT a), (111, .int .i64 width), (112, setT (cutT a (maskF width))), (113, .bool true), (114, .bool true), (115, .bool true), (116, .bool true), (8, .bool true)] (OrT w0 g0 g1 g2 ga gb a b c one) (by kernel_rfl) (by kernel_rfl) HS.out.drew ?_ ?_
    · exact ⟨RS.StepOK.load 105 (setT a) (by kernel_rfl) (by kernel_rfl) rfl (fun w hS => run_load rfl (by kernel_rfl) (load_set hS.1.1)),
        RS.StepOK.pure 106 (by kernel_rfl) rfl (fun w => by kernel_rfl),
        RS.StepOK.call 107 16 #[setT a, .int .i64 width] (setT (cutT a (maskF width))) (by kernel_rfl) (by kernel_rfl) rfl (fun w => by kernel_rfl) (fun w hS => (cut_calls OA.out width w hS.1.2.2.2.1).mono (by rintro e w' ⟨rfl, hb⟩; exact ⟨rfl, hS.met hb⟩)),
        RS.StepOK.pure 108 (by kernel_rfl) rfl (fun w => by kernel_rfl),
        RS.StepOK.call 109 16 #[setT (cutT a (maskF width)), .int .i64 width] (setT (cutT a (maskF width))) (by kernel_rfl) (by kernel_rfl) rfl (fun w => by kernel_rfl) (fun w hS => (cut_calls (a := (cutT a (maskF width))) (cut_ok OA.out HM.out) width w hS.1.2.2.2.1).mono (by rw [cut_cut OA.out HM.out]; rintro e w' ⟨rfl, hb⟩; exact ⟨rfl, hS.met hb⟩)),
        RS.StepOK.load 110 (setT a) (by kernel_rfl) (by kernel_rfl) rfl (fun w hS => run_load rfl (by kernel_rfl) (load_set hS.1.1)),
        RS.StepOK.pure 111 (by kernel_rfl) rfl (fun w => by kernel_rfl),
        RS.StepOK.call 112 16 #[setT a, .int .i64 width] (setT (cutT a (maskF width))) (by kernel_rfl) (by kernel_rfl) rfl (fun w => by kernel_rfl) (fun w hS => (cut_calls OA.out width w hS.1.2.2.2.1).mono (by rintro e w' ⟨rfl, hb⟩; exact ⟨rfl, hS.met hb⟩)),
        RS.StepOK.load 113 (.bool true) (by kernel_rfl) (by kernel_rfl) rfl (fun w hS => run_bin (a := setT (cutT a (maskF width))) (b := setT (cutT a (maskF width))) rfl (by kernel_rfl) (by kernel_rfl) (by kernel_rfl) (eql_same (cutT a (maskF width)) w)),
        RS.StepOK.pure 114 (by kernel_rfl) rfl (fun w => by kernel_rfl),
        RS.StepOK.call 115 8 #[] (.bool true) (by kernel_rfl) (by kernel_rfl) rfl (fun w => by kernel_rfl) (fun w hS => (wakes_calls w hS.1.2.2.2.1).mono (by rintro e w' ⟨rfl, hb⟩; exact ⟨rfl, hS.met hb⟩)),
        RS.StepOK.pure 116 (by kernel_rfl) rfl (fun w => by kernel_rfl),
        RS.StepOK.pure 8 (by kernel_rfl) rfl (fun w => by kernel_rfl), trivial⟩
    rintro w6 hs
    clear HS
    have HS := Aside0.mk hs
    clear hs
    (try simp only [RS.sets, List.setIfInBounds_toArray, List.set_cons_zero, List.set_cons_succ])
    go_wp2_with fail
    go_ret
    exact ⟨rfl, HS.out.1.2.2.2.2⟩
  · have hx := inT_trans BI.out (inT_join1 OB.out OC.out)
    go_upto_region 4 with (fail)
    refine RS.wp_drawn (by kernel_rfl) [(35, setT one), (36, setT one), (37, .bool false), (38, .bool false), (39, setT a), (40, setT b), (41, .int .i64 width), (42, setT (addT (cutT a (maskF width)) (cutT b (maskF width)) (maskF width))), (43, setT b), (44, setT a), (45, .int .i64 width), (46, setT (addT (cutT a (maskF width)) (cutT b (maskF width)) (maskF width))), (47, .bool false), (48, .bool false), (49, .bool false), (50, setT a), (51, setT one), (52, .bool true), (53, .bool false), (54, .bool false), (55, .bool false), (56, setT a), (57, setT b), (58, .bool true), (59, .bool true), (60, setT a), (61, setT b), (62, setT c), (63, setT (joinT b c)), (64, .bool true), (65, .bool false), (66, .bool false), (67, .bool false)] (OrT w0 g0 g1 g2 ga gb a b c one) (by kernel_rfl) (by kernel_rfl) HS.out.drew ?_ ?_
    · exact ⟨RS.StepOK.load 35 (setT one) (by kernel_rfl) (by kernel_rfl) rfl (fun w hS => run_load rfl (by kernel_rfl) (load_set hS.2.1)),
        RS.StepOK.load 36 (setT one) (by kernel_rfl) (by kernel_rfl) rfl (fun w hS => run_load rfl (by kernel_rfl) (load_set hS.2.2)),
        RS.StepOK.load 37 (.bool false) (by kernel_rfl) (by kernel_rfl) rfl (fun w hS => run_bin (a := setT one) (b := setT one) rfl (by kernel_rfl) (by kernel_rfl) (by kernel_rfl) (neq_same one w)),
        RS.StepOK.pure 38 (by kernel_rfl) rfl (fun w => by kernel_rfl),
        RS.StepOK.load 39 (setT a) (by kernel_rfl) (by kernel_rfl) rfl (fun w hS => run_load rfl (by kernel_rfl) (load_set hS.1.1)),
        RS.StepOK.load 40 (setT b) (by kernel_rfl) (by kernel_rfl) rfl (fun w hS => run_load rfl (by kernel_rfl) (load_set hS.1.2.1)),
        RS.StepOK.pure 41 (by kernel_rfl) rfl (fun w => by kernel_rfl),
        RS.StepOK.call 42 14 #[setT a, setT b, .int .i64 width] (setT (addT (cutT a (maskF width)) (cutT b (maskF width)) (maskF width))) (by kernel_rfl) (by kernel_rfl) rfl (fun w => by kernel_rfl) (fun w hS => (add_calls a b OA.out OB.out width w hS.1.2.2.2.1).mono (by rintro e w' ⟨rfl, hb⟩; exact ⟨rfl, hS.met hb⟩)),
        RS.StepOK.load 43 (setT b) (by kernel_rfl) (by kernel_rfl) rfl (fun w hS => run_load rfl (by kernel_rfl) (load_set hS.1.2.1)),
        RS.StepOK.load 44 (setT a) (by kernel_rfl) (by kernel_rfl) rfl (fun w hS => run_load rfl (by kernel_rfl) (load_set hS.1.1)),
        RS.StepOK.pure 45 (by kernel_rfl) rfl (fun w => by kernel_rfl),
        RS.StepOK.call 46 14 #[setT b, setT a, .int .i64 width] (setT (addT (cutT a (maskF width)) (cutT b (maskF width)) (maskF width))) (by kernel_rfl) (by kernel_rfl) rfl (fun w => by kernel_rfl) (fun w hS => (add_calls b a OB.out OA.out width w hS.1.2.2.2.1).mono (by rw [add_comm3 (cutT b (maskF width))]; rintro e w' ⟨rfl, hb⟩; exact ⟨rfl, hS.met hb⟩)),
        RS.StepOK.load 47 (.bool false) (by kernel_rfl) (by kernel_rfl) rfl (fun w hS => run_bin (a := setT (addT (cutT a (maskF width)) (cutT b (maskF width)) (maskF width))) (b := setT (addT (cutT a (maskF width)) (cutT b (maskF width)) (maskF width))) rfl (by kernel_rfl) (by kernel_rfl) (by kernel_rfl) (neq_same (addT (cutT a (maskF width)) (cutT b (maskF width)) (maskF width)) w)),
        RS.StepOK.pure 48 (by kernel_rfl) rfl (fun w => by kernel_rfl),
        RS.StepOK.pure 49 (by kernel_rfl) rfl (fun w => by kernel_rfl),
        RS.StepOK.load 50 (setT a) (by kernel_rfl) (by kernel_rfl) rfl (fun w hS => run_load rfl (by kernel_rfl) (load_set hS.1.1)),
        RS.StepOK.load 51 (setT one) (by kernel_rfl) (by kernel_rfl) rfl (fun w hS => run_load rfl (by kernel_rfl) (load_set hS.2.1)),
        RS.StepOK.call 52 11 #[setT a, setT one] (.bool true) (by kernel_rfl) (by kernel_rfl) rfl (fun w => by kernel_rfl) (fun w hS => (in_calls (a := a) (b := one) OA.out OO.out w).mono (by rw [I1.out]; rintro e w' ⟨rfl, hb⟩; exact ⟨rfl, hS.met hb⟩)),
        RS.StepOK.pure 53 (by kernel_rfl) rfl (fun w => by kernel_rfl),
        RS.StepOK.pure 54 (by kernel_rfl) rfl (fun w => by kernel_rfl),
        RS.StepOK.pure 55 (by kernel_rfl) rfl (fun w => by kernel_rfl),
        RS.StepOK.load 56 (setT a) (by kernel_rfl) (by kernel_rfl) rfl (fun w hS => run_load rfl (by kernel_rfl) (load_set hS.1.1)),
        RS.StepOK.load 57 (setT b) (by kernel_rfl) (by kernel_rfl) rfl (fun w hS => run_load rfl (by kernel_rfl) (load_set hS.1.2.1)),
        RS.StepOK.call 58 11 #[setT a, setT b] (.bool true) (by kernel_rfl) (by kernel_rfl) rfl (fun w => by kernel_rfl) (fun w hS => (in_calls (a := a) (b := b) OA.out OB.out w).mono (by rw [BI.out]; rintro e w' ⟨rfl, hb⟩; exact ⟨rfl, hS.met hb⟩)),
        RS.StepOK.pure 59 (by kernel_rfl) rfl (fun w => by kernel_rfl),
        RS.StepOK.load 60 (setT a) (by kernel_rfl) (by kernel_rfl) rfl (fun w hS => run_load rfl (by kernel_rfl) (load_set hS.1.1)),
        RS.StepOK.load 61 (setT b) (by kernel_rfl) (by kernel_rfl) rfl (fun w hS => run_load rfl (by kernel_rfl) (load_set hS.1.2.1)),
        RS.StepOK.load 62 (setT c) (by kernel_rfl) (by kernel_rfl) rfl (fun w hS => run_load rfl (by kernel_rfl) (load_set hS.1.2.2.1)),
        RS.StepOK.call 63 10 #[setT b, setT c] (setT (joinT b c)) (by kernel_rfl) (by kernel_rfl) rfl (fun w => by kernel_rfl) (fun w hS => (join_calls OB.out OC.out w).mono (by rintro e w' ⟨rfl, hb⟩; exact ⟨rfl, hS.met hb⟩)),
        RS.StepOK.call 64 11 #[setT a, setT (joinT b c)] (.bool true) (by kernel_rfl) (by kernel_rfl) rfl (fun w => by kernel_rfl) (fun w hS => (in_calls (a := a) (b := (joinT b c)) OA.out (join_ok OB.out OC.out) w).mono (by rw [hx]; rintro e w' ⟨rfl, hb⟩; exact ⟨rfl, hS.met hb⟩)),
        RS.StepOK.pure 65 (by kernel_rfl) rfl (fun w => by kernel_rfl),
        RS.StepOK.pure 66 (by kernel_rfl) rfl (fun w => by kernel_rfl),
        RS.StepOK.pure 67 (by kernel_rfl) rfl (fun w => by kernel_rfl), trivial⟩
    rintro w4 hs
    clear HS
    have HS := Aside0.mk hs
    clear hs
    (try simp only [RS.sets, List.setIfInBounds_toArray, List.set_cons_zero, List.set_cons_succ])
    go_upto_region 6 with (fail)
    have fa := cut_fits OA.out HM.out
    have fb := cut_fits OB.out HM.out
    have fc := cut_fits OC.out HM.out
    have ka := cut_ok OA.out HM.out
    have kb := cut_ok OB.out HM.out
    have kc := cut_ok OC.out HM.out
    have hcm := cut_mono OA.out OB.out HM.out BI.out
    have ham := add_mono ka kb kc fa fb fc HM.out hcm
    have hsm := sub_mono ka kb kc fa fb fc HM.out hcm
    refine RS.wp_drawn (by kernel_rfl) [(68, setT a), (69, setT b), (70, .bool true), (71, .bool true), (72, setT a), (73, setT c), (74, .int .i64 width), (75, setT (addT (cutT a (maskF width)) (cutT c (maskF width)) (maskF width))), (76, setT b), (77, setT c), (78, .int .i64 width), (79, setT (addT (cutT b (maskF width)) (cutT c (maskF width)) (maskF width))), (80, .bool true), (81, .bool false), (82, .bool false), (83, setT a), (84, setT c), (85, .int .i64 width), (86, setT (subT (cutT a (maskF width)) (cutT c (maskF width)) (maskF width))), (87, setT b), (88, setT c), (89, .int .i64 width), (90, setT (subT (cutT b (maskF width)) (cutT c (maskF width)) (maskF width))), (91, .bool true), (92, .bool false), (93, .bool false), (94, .bool false), (95, setT a), (96, .int .i64 width), (97, setT (cutT a (maskF width))), (98, setT b), (99, .int .i64 width), (100, setT (cutT b (maskF width))), (101, .bool true), (102, .bool false), (103, .bool false), (104, .bool false)] (OrT w0 g0 g1 g2 ga gb a b c one) (by kernel_rfl) (by kernel_rfl) HS.out.drew ?_ ?_
    · exact ⟨RS.StepOK.load 68 (setT a) (by kernel_rfl) (by kernel_rfl) rfl (fun w hS => run_load rfl (by kernel_rfl) (load_set hS.1.1)),
        RS.StepOK.load 69 (setT b) (by kernel_rfl) (by kernel_rfl) rfl (fun w hS => run_load rfl (by kernel_rfl) (load_set hS.1.2.1)),
        RS.StepOK.call 70 11 #[setT a, setT b] (.bool true) (by kernel_rfl) (by kernel_rfl) rfl (fun w => by kernel_rfl) (fun w hS => (in_calls (a := a) (b := b) OA.out OB.out w).mono (by rw [BI.out]; rintro e w' ⟨rfl, hb⟩; exact ⟨rfl, hS.met hb⟩)),
        RS.StepOK.pure 71 (by kernel_rfl) rfl (fun w => by kernel_rfl),
        RS.StepOK.load 72 (setT a) (by kernel_rfl) (by kernel_rfl) rfl (fun w hS => run_load rfl (by kernel_rfl) (load_set hS.1.1)),
        RS.StepOK.load 73 (setT c) (by kernel_rfl) (by kernel_rfl) rfl (fun w hS => run_load rfl (by kernel_rfl) (load_set hS.1.2.2.1)),
        RS.StepOK.pure 74 (by kernel_rfl) rfl (fun w => by kernel_rfl),
        RS.StepOK.call 75 14 #[setT a, setT c, .int .i64 width] (setT (addT (cutT a (maskF width)) (cutT c (maskF width)) (maskF width))) (by kernel_rfl) (by kernel_rfl) rfl (fun w => by kernel_rfl) (fun w hS => (add_calls a c OA.out OC.out width w hS.1.2.2.2.1).mono (by rintro e w' ⟨rfl, hb⟩; exact ⟨rfl, hS.met hb⟩)),
        RS.StepOK.load 76 (setT b) (by kernel_rfl) (by kernel_rfl) rfl (fun w hS => run_load rfl (by kernel_rfl) (load_set hS.1.2.1)),
        RS.StepOK.load 77 (setT c) (by kernel_rfl) (by kernel_rfl) rfl (fun w hS => run_load rfl (by kernel_rfl) (load_set hS.1.2.2.1)),
        RS.StepOK.pure 78 (by kernel_rfl) rfl (fun w => by kernel_rfl),
        RS.StepOK.call 79 14 #[setT b, setT c, .int .i64 width] (setT (addT (cutT b (maskF width)) (cutT c (maskF width)) (maskF width))) (by kernel_rfl) (by kernel_rfl) rfl (fun w => by kernel_rfl) (fun w hS => (add_calls b c OB.out OC.out width w hS.1.2.2.2.1).mono (by rintro e w' ⟨rfl, hb⟩; exact ⟨rfl, hS.met hb⟩)),
        RS.StepOK.call 80 11 #[setT (addT (cutT a (maskF width)) (cutT c (maskF width)) (maskF width)), setT (addT (cutT b (maskF width)) (cutT c (maskF width)) (maskF width))] (.bool true) (by kernel_rfl) (by kernel_rfl) rfl (fun w => by kernel_rfl) (fun w hS => (in_calls (a := (addT (cutT a (maskF width)) (cutT c (maskF width)) (maskF width))) (b := (addT (cutT b (maskF width)) (cutT c (maskF width)) (maskF width))) (add_ok ka kc HM.out).1 (add_ok kb kc HM.out).1 w).mono (by rw [ham]; rintro e w' ⟨rfl, hb⟩; exact ⟨rfl, hS.met hb⟩)),
        RS.StepOK.pure 81 (by kernel_rfl) rfl (fun w => by kernel_rfl),
        RS.StepOK.pure 82 (by kernel_rfl) rfl (fun w => by kernel_rfl),
        RS.StepOK.load 83 (setT a) (by kernel_rfl) (by kernel_rfl) rfl (fun w hS => run_load rfl (by kernel_rfl) (load_set hS.1.1)),
        RS.StepOK.load 84 (setT c) (by kernel_rfl) (by kernel_rfl) rfl (fun w hS => run_load rfl (by kernel_rfl) (load_set hS.1.2.2.1)),
        RS.StepOK.pure 85 (by kernel_rfl) rfl (fun w => by kernel_rfl),
        RS.StepOK.call 86 15 #[setT a, setT c, .int .i64 width] (setT (subT (cutT a (maskF width)) (cutT c (maskF width)) (maskF width))) (by kernel_rfl) (by kernel_rfl) rfl (fun w => by kernel_rfl) (fun w hS => (sub_calls a c OA.out OC.out width w hS.1.2.2.2.1).mono (by rintro e w' ⟨rfl, hb⟩; exact ⟨rfl, hS.met hb⟩)),
        RS.StepOK.load 87 (setT b) (by kernel_rfl) (by kernel_rfl) rfl (fun w hS => run_load rfl (by kernel_rfl) (load_set hS.1.2.1)),
        RS.StepOK.load 88 (setT c) (by kernel_rfl) (by kernel_rfl) rfl (fun w hS => run_load rfl (by kernel_rfl) (load_set hS.1.2.2.1)),
        RS.StepOK.pure 89 (by kernel_rfl) rfl (fun w => by kernel_rfl),
        RS.StepOK.call 90 15 #[setT b, setT c, .int .i64 width] (setT (subT (cutT b (maskF width)) (cutT c (maskF width)) (maskF width))) (by kernel_rfl) (by kernel_rfl) rfl (fun w => by kernel_rfl) (fun w hS => (sub_calls b c OB.out OC.out width w hS.1.2.2.2.1).mono (by rintro e w' ⟨rfl, hb⟩; exact ⟨rfl, hS.met hb⟩)),
        RS.StepOK.call 91 11 #[setT (subT (cutT a (maskF width)) (cutT c (maskF width)) (maskF width)), setT (subT (cutT b (maskF width)) (cutT c (maskF width)) (maskF width))] (.bool true) (by kernel_rfl) (by kernel_rfl) rfl (fun w => by kernel_rfl) (fun w hS => (in_calls (a := (subT (cutT a (maskF width)) (cutT c (maskF width)) (maskF width))) (b := (subT (cutT b (maskF width)) (cutT c (maskF width)) (maskF width))) (sub_ok ka kc fa HM.out).1 (sub_ok kb kc fb HM.out).1 w).mono (by rw [hsm]; rintro e w' ⟨rfl, hb⟩; exact ⟨rfl, hS.met hb⟩)),
        RS.StepOK.pure 92 (by kernel_rfl) rfl (fun w => by kernel_rfl),
        RS.StepOK.pure 93 (by kernel_rfl) rfl (fun w => by kernel_rfl),
        RS.StepOK.pure 94 (by kernel_rfl) rfl (fun w => by kernel_rfl),
        RS.StepOK.load 95 (setT a) (by kernel_rfl) (by kernel_rfl) rfl (fun w hS => run_load rfl (by kernel_rfl) (load_set hS.1.1)),
        RS.StepOK.pure 96 (by kernel_rfl) rfl (fun w => by kernel_rfl),
        RS.StepOK.call 97 16 #[setT a, .int .i64 width] (setT (cutT a (maskF width))) (by kernel_rfl) (by kernel_rfl) rfl (fun w => by kernel_rfl) (fun w hS => (cut_calls OA.out width w hS.1.2.2.2.1).mono (by rintro e w' ⟨rfl, hb⟩; exact ⟨rfl, hS.met hb⟩)),
        RS.StepOK.load 98 (setT b) (by kernel_rfl) (by kernel_rfl) rfl (fun w hS => run_load rfl (by kernel_rfl) (load_set hS.1.2.1)),
        RS.StepOK.pure 99 (by kernel_rfl) rfl (fun w => by kernel_rfl),
        RS.StepOK.call 100 16 #[setT b, .int .i64 width] (setT (cutT b (maskF width))) (by kernel_rfl) (by kernel_rfl) rfl (fun w => by kernel_rfl) (fun w hS => (cut_calls OB.out width w hS.1.2.2.2.1).mono (by rintro e w' ⟨rfl, hb⟩; exact ⟨rfl, hS.met hb⟩)),
        RS.StepOK.call 101 11 #[setT (cutT a (maskF width)), setT (cutT b (maskF width))] (.bool true) (by kernel_rfl) (by kernel_rfl) rfl (fun w => by kernel_rfl) (fun w hS => (in_calls (a := (cutT a (maskF width))) (b := (cutT b (maskF width))) ka kb w).mono (by rw [hcm]; rintro e w' ⟨rfl, hb⟩; exact ⟨rfl, hS.met hb⟩)),
        RS.StepOK.pure 102 (by kernel_rfl) rfl (fun w => by kernel_rfl),
        RS.StepOK.pure 103 (by kernel_rfl) rfl (fun w => by kernel_rfl),
        RS.StepOK.pure 104 (by kernel_rfl) rfl (fun w => by kernel_rfl), trivial⟩
    rintro w5 hs
    clear HS
    have HS := Aside0.mk hs
    clear hs
    (try simp only [RS.sets, List.setIfInBounds_toArray, List.set_cons_zero, List.set_cons_succ])
    go_upto_region 8 with (fail)
    refine RS.wp_drawn (by kernel_rfl) [(105, setT a), (106, .int .i64 width), (107, setT (cutT a (maskF width))), (108, .int .i64 width), (109, setT (cutT a (maskF width))), (110, setT a), (111, .int .i64 width), (112, setT (cutT a (maskF width))), (113, .bool true), (114, .bool true), (115, .bool true), (116, .bool true), (8, .bool true)] (OrT w0 g0 g1 g2 ga gb a b c one) (by kernel_rfl) (by kernel_rfl) HS.out.drew ?_ ?_
    · exact ⟨RS.StepOK.load 105 (setT a) (by kernel_rfl) (by kernel_rfl) rfl (fun w hS => run_load rfl (by kernel_rfl) (load_set hS.1.1)),
        RS.StepOK.pure 106 (by kernel_rfl) rfl (fun w => by kernel_rfl),
        RS.StepOK.call 107 16 #[setT a, .int .i64 width] (setT (cutT a (maskF width))) (by kernel_rfl) (by kernel_rfl) rfl (fun w => by kernel_rfl) (fun w hS => (cut_calls OA.out width w hS.1.2.2.2.1).mono (by rintro e w' ⟨rfl, hb⟩; exact ⟨rfl, hS.met hb⟩)),
        RS.StepOK.pure 108 (by kernel_rfl) rfl (fun w => by kernel_rfl),
        RS.StepOK.call 109 16 #[setT (cutT a (maskF width)), .int .i64 width] (setT (cutT a (maskF width))) (by kernel_rfl) (by kernel_rfl) rfl (fun w => by kernel_rfl) (fun w hS => (cut_calls (a := (cutT a (maskF width))) (cut_ok OA.out HM.out) width w hS.1.2.2.2.1).mono (by rw [cut_cut OA.out HM.out]; rintro e w' ⟨rfl, hb⟩; exact ⟨rfl, hS.met hb⟩)),
        RS.StepOK.load 110 (setT a) (by kernel_rfl) (by kernel_rfl) rfl (fun w hS => run_load rfl (by kernel_rfl) (load_set hS.1.1)),
        RS.StepOK.pure 111 (by kernel_rfl) rfl (fun w => by kernel_rfl),
        RS.StepOK.call 112 16 #[setT a, .int .i64 width] (setT (cutT a (maskF width))) (by kernel_rfl) (by kernel_rfl) rfl (fun w => by kernel_rfl) (fun w hS => (cut_calls OA.out width w hS.1.2.2.2.1).mono (by rintro e w' ⟨rfl, hb⟩; exact ⟨rfl, hS.met hb⟩)),
        RS.StepOK.load 113 (.bool true) (by kernel_rfl) (by kernel_rfl) rfl (fun w hS => run_bin (a := setT (cutT a (maskF width))) (b := setT (cutT a (maskF width))) rfl (by kernel_rfl) (by kernel_rfl) (by kernel_rfl) (eql_same (cutT a (maskF width)) w)),
        RS.StepOK.pure 114 (by kernel_rfl) rfl (fun w => by kernel_rfl),
        RS.StepOK.call 115 8 #[] (.bool true) (by kernel_rfl) (by kernel_rfl) rfl (fun w => by kernel_rfl) (fun w hS => (wakes_calls w hS.1.2.2.2.1).mono (by rintro e w' ⟨rfl, hb⟩; exact ⟨rfl, hS.met hb⟩)),
        RS.StepOK.pure 116 (by kernel_rfl) rfl (fun w => by kernel_rfl),
        RS.StepOK.pure 8 (by kernel_rfl) rfl (fun w => by kernel_rfl), trivial⟩
    rintro w6 hs
    clear HS
    have HS := Aside0.mk hs
    clear hs
    (try simp only [RS.sets, List.setIfInBounds_toArray, List.set_cons_zero, List.set_cons_succ])
    go_wp2_with fail
    go_ret
    exact ⟨rfl, HS.out.1.2.2.2.2⟩
theorem order_calls (a b c : T3) (width : Int) (w0 : World) (hT : Tab w0) (ga : RgT a) (gb : RgT b) (gc : RgT c) : Calls Tryd.prog 4 #[setT a, setT b, setT c, .int .i64 width] w0 fun e w' => e = .returned (.bool true) ∧ Below w0.heap.size w0 w' := by
  obtain ⟨ra, ha, oa⟩ := right_ok ga
  obtain ⟨rb, hb, ob⟩ := right_ok gb
  obtain ⟨rc, hc, oc⟩ := right_ok gc
  cases ra
  · exact order_not0 a b c width w0 hT ⟨ha⟩
  cases rb
  · exact order_not1 a b c width w0 hT ⟨ha⟩ ⟨hb⟩
  cases rc
  · exact order_not2 a b c width w0 hT ⟨ha⟩ ⟨hb⟩ ⟨hc⟩
  exact order_true a b c width w0 hT ⟨ha⟩ ⟨hb⟩ ⟨hc⟩ (oa rfl) (ob rfl) (oc rfl)
end Go.Proofs.YtpphcfkldhemeaaDoor.B
