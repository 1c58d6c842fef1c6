/- StridedIn tells true. -/
import Derived.Test.YtpphcfkldhemeaaDoorIq12
namespace Go.Proofs.YtpphcfkldhemeaaDoor.B
open Go.RowKit Go.Proofs.YtpphcfkldhemeaaDoorW.PrintWords Go.Proofs.YtpphcfkldhemeaaDoorW.PrintMore Go.RF
set_option linter.unusedVariables false
set_option linter.unusedSimpArgs false
theorem gtr_t {x y : Int} (h : y < x) (w : World) : (binOp .gtr 22 (.int .u64 x) (.int .u64 y)).run Tryd.prog w = .ok (.bool true) w := by simp [binOp, Op.intCmp]; omega
theorem gtr_f {x y : Int} (h : x ≤ y) (w : World) : (binOp .gtr 22 (.int .u64 x) (.int .u64 y)).run Tryd.prog w = .ok (.bool false) w := by simp [binOp, Op.intCmp]; omega
theorem geq_f {x y : Int} (h : x < y) (w : World) : (binOp .geq 22 (.int .u64 x) (.int .u64 y)).run Tryd.prog w = .ok (.bool false) w := by simp [binOp, Op.intCmp]; omega
theorem lssu_t {x y : Int} (h : x < y) (w : World) : (binOp .lss 22 (.int .u64 x) (.int .u64 y)).run Tryd.prog w = .ok (.bool true) w := by simp [binOp, Op.intCmp]; omega
theorem lssu_f {x y : Int} (h : y ≤ x) (w : World) : (binOp .lss 22 (.int .u64 x) (.int .u64 y)).run Tryd.prog w = .ok (.bool false) w := by simp [binOp, Op.intCmp]; omega
theorem lssi_t {x y : Int} (h : x < y) (w : World) : (binOp .lss 3 (.int .i64 x) (.int .i64 y)).run Tryd.prog w = .ok (.bool true) w := by simp [binOp, Op.intCmp]; omega
theorem lssi_f {x y : Int} (h : y ≤ x) (w : World) : (binOp .lss 3 (.int .i64 x) (.int .i64 y)).run Tryd.prog w = .ok (.bool false) w := by simp [binOp, Op.intCmp]; omega
theorem neqw_f {x y : Int} (h : x = y) (w : World) : (binOp .neq 22 (.int .u64 x) (.int .u64 y)).run Tryd.prog w = .ok (.bool false) w := by simp [binOp, Op.intCmp, h]
theorem neqb_f (b : Bool) (w : World) : (binOp .neq 4 (.bool b) (.bool b)).run Tryd.prog w = .ok (.bool false) w := by cases b <;> rfl
theorem sub_i (k : Nat) (hk : k < 1000000) (w : World) : (binOp .sub 3 (.int .i64 ((k + 1 : Nat) : Int)) (.int .i64 1)).run Tryd.prog w = .ok (.int .i64 (k : Int)) w := by
  have e : IntKind.i64.wrap (((k + 1 : Nat) : Int) - 1) = (k : Int) := by
    rw [IntKind.wrap_i64, show ((k + 1 : Nat) : Int) - 1 = (k : Int) by omega]; omega
  show (Sem.pure _ : Sem Value).run _ _ = _
  simp only [Op.intArith, e]
  rfl
theorem run_indexAddr {P : Program} {o : Oper} {ρ : Operand → Value} {t : TypeId} {x y : Operand} {a b v : Value} {w : World} (ho : o.op = .indexAddr t x y) (hx : ρ x = a) (hy : ρ y = b) (h : (Instr.indexAt t a b).run P w = .ok v w) : (execOp ρ o).run P w = .ok (.value v) w := by
  unfold execOp
  simp only [ho, hx, hy, Sem.run_bind, h, Result.andThen_ok, Sem.run_pure]
theorem index_sl (ad : Addr) (n c i : Nat) (hi : i < n) (W : World) : (Instr.indexAt 31 (.slice (some ad) n c) (.int .i64 (i : Int))).run Tryd.prog W = .ok (.pointer (some (ad.add i))) W := by
  have hu := Tryd.underlying31
  have hu22 := Tryd.underlying22
  have h1 : (0 : Int) ≤ (i : Int) := by omega
  have h2 : (i : Int) < (n : Int) := by omega
  go_simp
def valsT (t : T3) : List Int := if noB t then [] else valsP t.1 t.2.1 t.2.2
theorem valsT_len {t : T3} (h : Ok t) (hm : manyT t ≤ 200) : ((valsT t).length : Int) = manyT t := by
  unfold valsT
  cases hn : noB t with
  | true => rw [noB_iff] at hn; subst hn; rfl
  | false =>
    have k := h.sm hn
    rw [manyT_steps k hm]
    simp [valsP_len]
theorem valsT_get {t : T3} (h : Ok t) (i : Nat) (hi : i < (valsT t).length) : (valsT t)[i]? = some (t.2.1 + i * t.1) := by
  unfold valsT at *
  cases hn : noB t with
  | true => rw [hn] at hi; simp at hi
  | false =>
    rw [hn] at hi
    simp only [Bool.false_eq_true, if_false] at *
    unfold valsP at *
    rw [valL_len] at hi
    exact valL_get _ _ _ _ hi
theorem valsT_step {t : T3} (h : Ok t) (hm : manyT t ≤ 200) (hi : 1 < (valsT t).length) : 0 < t.1 := by
  have e := valsT_len h hm
  cases hn : noB t with
  | true => rw [noB_iff] at hn; subst hn; exact absurd hi (by decide)
  | false =>
    have k := h.sm hn
    rw [manyT_steps k hm] at e
    rcases Int.lt_or_eq_of_le k.rg.1.1 with h | h
    · exact h
    · have := (steps_eq k).2 h.symm
      omega
theorem list_ok {t : T3} (h : Ok t) (hm : manyT t ≤ 200) (w : World) : Calls Tryd.prog 12 #[setT t, .int .i64 300] w fun e w' =>
      ∃ v, e = .returned v ∧ Kd.R (Kd.int .u64) 22 w' w.heap.size (fun _ => True) v (valsT t) ∧ Below w.heap.size w w' := by
  unfold valsT
  cases hn : noB t with
  | true => rw [noB_iff] at hn; subst hn; exact list_no 300 w (by decide) (by decide)
  | false =>
    have k := h.sm hn
    have := manyT_steps k hm
    exact list_sm t.1 t.2.1 t.2.2 300 k w (by decide) (by omega)
theorem many_ok {t : T3} (h : Ok t) (w : World) : Calls Tryd.prog 13 #[setT t] w fun e w' => e = .returned (.int .u64 (manyT t)) ∧ Below w.heap.size w w' := by
  cases hn : noB t with
  | true => rw [noB_iff] at hn; subst hn; rw [manyT_none]; exact many_none w
  | false => exact many_calls t.1 t.2.1 t.2.2 w (h.sm hn)
theorem rmany_calls {t : T3} (h : Ok t) (w : World) : Calls Tryd.prog 7 #[setT t] w fun e w' => e = .returned (.int .u64 (manyT t)) ∧ Below w.heap.size w w' := sundialref22_Many.calls _ _ _ _ w (rmany_f h)
theorem has_calls {b : T3} (hb : Ok b) {x : Int} (hx : Rg x) (w : World) : Calls Tryd.prog 9 #[setT b, .int .u64 x] w fun e w' => e = .returned (.bool (hasT b x)) ∧ Below w.heap.size w w' := strided_Has.calls _ _ _ _ _ w (has_f hb hx)
theorem val_rg {t : T3} (h : Ok t) (hm : manyT t ≤ 200) {i : Nat} {n : Nat} (hn : manyT t = (n : Int)) (hi : i < n) : 0 ≤ (i : Int) * t.1 ∧ Rg (t.2.1 + (i : Int) * t.1) := by
  cases hno : noB t with
  | true => rw [noB_iff] at hno; subst hno; rw [manyT_none] at hn; omega
  | false =>
    have k := h.sm hno
    have e := manyT_steps k hm
    have := step_le k i (by omega)
    obtain ⟨⟨k1, k2⟩, ⟨k3, k4⟩, ⟨k5, k6⟩, k7⟩ := k.rg
    exact ⟨this.1, by omega, by omega⟩
theorem mul_hi {t : T3} (h : Ok t) {i : Nat} (k : Rg (t.2.1 + (i : Int) * t.1)) : (i : Int) * t.1 < 18446744073709551616 := by
  have h0 : 0 ≤ t.2.1 := by
    rcases h with rfl | h
    · decide
    · exact h.rg.2.1.1
  have := k.2
  omega
theorem eql_eq {a b : T3} (h : a = b) (w : World) : (binOp .eql 24 (setT a) (setT b)).run Tryd.prog w = .ok (.bool true) w := by subst h; exact eql_same a w
def InS (w0 : World) (g0 g1 g2 g3 : Nat) (a b c j : T3) (w : World) : Prop := OrS w0 g0 g1 g2 a b c w ∧ w.heap[g3]? = some (.cells (setK j) 24 (0, 0))
theorem InS.met {w0 : World} {g0 g1 g2 g3 : Nat} {a b c j : T3} {w w' : World} (h : InS w0 g0 g1 g2 g3 a b c j w) (hb : Below w.heap.size w w') : InS w0 g0 g1 g2 g3 a b c j w' := ⟨h.1.met hb, heap_below hb h.2⟩
theorem InS.drew {w0 : World} {g0 g1 g2 g3 : Nat} {a b c j : T3} {w : World} (h : InS w0 g0 g1 g2 g3 a b c j w) : InS w0 g0 g1 g2 g3 a b c j { w with drawn := w.drawn + 1 } := ⟨h.1.drew, h.2⟩
def InL (w0 : World) (g0 g1 g2 g3 : Nat) (a b c j : T3) (A : Option Addr) (n : Nat) (w : World) : Prop := InS w0 g0 g1 g2 g3 a b c j w ∧ ∀ ad, A = some ad → ∀ i : Nat, i < n → w.cell? (ad.add i) = some (.int .u64 (a.2.1 + i * a.1))
theorem InL.met {w0 : World} {g0 g1 g2 g3 : Nat} {a b c j : T3} {A : Option Addr} {n : Nat} {w w' : World} (h : InL w0 g0 g1 g2 g3 a b c j A n w) (hb : Below w.heap.size w w') : InL w0 g0 g1 g2 g3 a b c j A n w' :=
  ⟨h.1.met hb, fun ad e i hi => pw_cell_below hb (h.2 ad e i hi)⟩
theorem InL.drew {w0 : World} {g0 g1 g2 g3 : Nat} {a b c j : T3} {A : Option Addr} {n : Nat} {w : World} (h : InL w0 g0 g1 g2 g3 a b c j A n w) : InL w0 g0 g1 g2 g3 a b c j A n { w with drawn := w.drawn + 1 } := ⟨h.1.drew, h.2⟩
set_option maxHeartbeats 8000000 in
set_option maxRecDepth 100000 in
theorem in_not0 (a b c : T3) (w0 : World) (hT : Tab w0) (RA : Aside0 (sundialref22_Right.f a.1 a.2.1 a.2.2 = some false)) : Calls Tryd.prog 3 #[setT a, setT b, setT c] w0 fun e w' => e = .returned (.bool true) ∧ Below w0.heap.size w0 w' := by
  have hs0 : OrS w0 w0.heap.size (w0.heap.size + 1) (w0.heap.size + 2) a b c (((w0.alloc (.cells (setK a) 24)).alloc (.cells (setK b) 24)).alloc (.cells (setK c) 24)) := by
    have hb : Below w0.heap.size w0 (((w0.alloc (.cells (setK a) 24)).alloc (.cells (setK b) 24)).alloc (.cells (setK c) 24)) := bX_ (bX_ (bX_ (Below.refl _ _) _) _) _
    have b0 := World.alloc_heap_new w0 (.cells (setK a) 24)
    have b1 := World.alloc_heap_new (w0.alloc (.cells (setK a) 24)) (.cells (setK b) 24)
    have b2 := World.alloc_heap_new ((w0.alloc (.cells (setK a) 24)).alloc (.cells (setK b) 24)) (.cells (setK c) 24)
    simp only [World.size_alloc] at b1 b2
    exact ⟨(Below.heap_alloc _ _ _ (by simp; omega)).trans ((Below.heap_alloc _ _ _ (by simp)).trans b0), (Below.heap_alloc _ _ _ (by simp)).trans b1, b2, hT.below hb, hb⟩
  have hlt := hT.lt
  have HS := Aside0.mk hs0
  clear hs0 hT
  go_enter Tryd.func3, Tryd.ntmps3
  go_upto_region 1 with (fail)
  generalize ((w0.alloc (.cells (setK a) 24)).alloc (.cells (setK b) 24)).alloc (.cells (setK c) 24) = w1 at *
  obtain ⟨g0, hg0⟩ : ∃ g, w0.heap.size = g := ⟨_, rfl⟩
  have HG0 := Aside0.mk hg0
  obtain ⟨g1, hg1⟩ : ∃ g, w0.heap.size + 1 = g := ⟨_, rfl⟩
  obtain ⟨g2, hg2⟩ : ∃ g, w0.heap.size + 2 = g := ⟨_, rfl⟩
  have e2 : w0.heap.size + 1 + 1 = g2 := hg2
  (try rw [e2])
  (try rw [hg1])
  rw [hg2, hg1, hg0] at HS
  (try rw [hg0])
  clear hg0 hg1 hg2 e2 hlt
  refine RS.wp_text [(13, setT a), (14, .bool false), (15, .bool true), (16, .bool true), (17, undef), (18, undef), (19, undef), (20, .bool true), (21, .bool true), (22, undef), (23, undef), (24, undef), (25, .bool true), (26, .bool true), (27, undef), (28, undef), (29, undef), (30, .bool true), (31, .bool true), (32, undef), (33, undef), (34, undef), (35, .bool true)] (OrS w0 g0 g1 g2 a b c) (by kernel_rfl) (by kernel_rfl) HS.out ?_ ?_
  · exact ⟨RS.StepOK.load 13 (setT a) (by kernel_rfl) (by kernel_rfl) rfl (fun w hS => run_load rfl (by kernel_rfl) (load_set hS.1)),
      RS.StepOK.call 14 6 #[setT a] (.bool false) (by kernel_rfl) (by kernel_rfl) rfl (fun w => by kernel_rfl) (fun w hS => (sundialref22_Right.calls _ _ _ false w RA.out).mono (by rintro e w' ⟨rfl, hb⟩; exact ⟨rfl, hS.met hb⟩)),
      RS.StepOK.pure 15 (by kernel_rfl) rfl (fun w => by kernel_rfl),
      RS.StepOK.pure 16 (by kernel_rfl) rfl (fun w => by kernel_rfl),
      RS.StepOK.off 17 (by kernel_rfl) rfl (by kernel_rfl),
      RS.StepOK.off 18 (by kernel_rfl) rfl (by kernel_rfl),
      RS.StepOK.off 19 (by kernel_rfl) rfl (by kernel_rfl),
      RS.StepOK.pure 20 (by kernel_rfl) rfl (fun w => by kernel_rfl),
      RS.StepOK.pure 21 (by kernel_rfl) rfl (fun w => by kernel_rfl),
      RS.StepOK.off 22 (by kernel_rfl) rfl (by kernel_rfl),
      RS.StepOK.off 23 (by kernel_rfl) rfl (by kernel_rfl),
      RS.StepOK.off 24 (by kernel_rfl) rfl (by kernel_rfl),
      RS.StepOK.pure 25 (by kernel_rfl) rfl (fun w => by kernel_rfl),
      RS.StepOK.pure 26 (by kernel_rfl) rfl (fun w => by kernel_rfl),
      RS.StepOK.off 27 (by kernel_rfl) rfl (by kernel_rfl),
      RS.StepOK.off 28 (by kernel_rfl) rfl (by kernel_rfl),
      RS.StepOK.off 29 (by kernel_rfl) rfl (by kernel_rfl),
      RS.StepOK.pure 30 (by kernel_rfl) rfl (fun w => by kernel_rfl),
      RS.StepOK.pure 31 (by kernel_rfl) rfl (fun w => by kernel_rfl),
      RS.StepOK.off 32 (by kernel_rfl) rfl (by kernel_rfl),
      RS.StepOK.off 33 (by kernel_rfl) rfl (by kernel_rfl),
      RS.StepOK.off 34 (by kernel_rfl) rfl (by kernel_rfl),
      RS.StepOK.pure 35 (by kernel_rfl) rfl (fun w => by kernel_rfl), trivial⟩
  rintro w2 hs
  clear HS
  have HS := Aside0.mk hs
  clear hs
  (try simp only [RS.sets, List.setIfInBounds_toArray, List.set_cons_zero, List.set_cons_succ])
  go_wp2_with (go_at_call 8; refine (wakes_calls _ HS.out.2.2.2.1).mono ?_; rintro e w3 ⟨rfl, hb⟩)
  go_ret
  exact ⟨rfl, below_step HS.out.2.2.2.2 hb⟩
set_option maxHeartbeats 8000000 in
set_option maxRecDepth 100000 in
theorem in_not1 (a b c : T3) (w0 : World) (hT : Tab w0) (RA : Aside0 (sundialref22_Right.f a.1 a.2.1 a.2.2 = some true)) (RB : Aside0 (sundialref22_Right.f b.1 b.2.1 b.2.2 = some false)) : Calls Tryd.prog 3 #[setT a, setT b, setT c] w0 fun e w' => e = .returned (.bool true) ∧ Below w0.heap.size w0 w' := by
  have hs0 : OrS w0 w0.heap.size (w0.heap.size + 1) (w0.heap.size + 2) a b c (((w0.alloc (.cells (setK a) 24)).alloc (.cells (setK b) 24)).alloc (.cells (setK c) 24)) := by
    have hb : Below w0.heap.size w0 (((w0.alloc (.cells (setK a) 24)).alloc (.cells (setK b) 24)).alloc (.cells (setK c) 24)) := bX_ (bX_ (bX_ (Below.refl _ _) _) _) _
    have b0 := World.alloc_heap_new w0 (.cells (setK a) 24)
    have b1 := World.alloc_heap_new (w0.alloc (.cells (setK a) 24)) (.cells (setK b) 24)
    have b2 := World.alloc_heap_new ((w0.alloc (.cells (setK a) 24)).alloc (.cells (setK b) 24)) (.cells (setK c) 24)
    simp only [World.size_alloc] at b1 b2
    exact ⟨(Below.heap_alloc _ _ _ (by simp; omega)).trans ((Below.heap_alloc _ _ _ (by simp)).trans b0), (Below.heap_alloc _ _ _ (by simp)).trans b1, b2, hT.below hb, hb⟩
  have hlt := hT.lt
  have HS := Aside0.mk hs0
  clear hs0 hT
  go_enter Tryd.func3, Tryd.ntmps3
  go_upto_region 1 with (fail)
  generalize ((w0.alloc (.cells (setK a) 24)).alloc (.cells (setK b) 24)).alloc (.cells (setK c) 24) = w1 at *
  obtain ⟨g0, hg0⟩ : ∃ g, w0.heap.size = g := ⟨_, rfl⟩
  have HG0 := Aside0.mk hg0
  obtain ⟨g1, hg1⟩ : ∃ g, w0.heap.size + 1 = g := ⟨_, rfl⟩
  obtain ⟨g2, hg2⟩ : ∃ g, w0.heap.size + 2 = g := ⟨_, rfl⟩
  have e2 : w0.heap.size + 1 + 1 = g2 := hg2
  (try rw [e2])
  (try rw [hg1])
  rw [hg2, hg1, hg0] at HS
  (try rw [hg0])
  clear hg0 hg1 hg2 e2 hlt
  refine RS.wp_text [(13, setT a), (14, .bool true), (15, .bool false), (16, .bool false), (17, setT b), (18, .bool false), (19, .bool true), (20, .bool true), (21, .bool true), (22, undef), (23, undef), (24, undef), (25, .bool true), (26, .bool true), (27, undef), (28, undef), (29, undef), (30, .bool true), (31, .bool true), (32, undef), (33, undef), (34, undef), (35, .bool true)] (OrS w0 g0 g1 g2 a b c) (by kernel_rfl) (by kernel_rfl) HS.out ?_ ?_
  · exact ⟨RS.StepOK.load 13 (setT a) (by kernel_rfl) (by kernel_rfl) rfl (fun w hS => run_load rfl (by kernel_rfl) (load_set hS.1)),
      RS.StepOK.call 14 6 #[setT a] (.bool true) (by kernel_rfl) (by kernel_rfl) rfl (fun w => by kernel_rfl) (fun w hS => (sundialref22_Right.calls _ _ _ true w RA.out).mono (by rintro e w' ⟨rfl, hb⟩; exact ⟨rfl, hS.met hb⟩)),
      RS.StepOK.pure 15 (by kernel_rfl) rfl (fun w => by kernel_rfl),
      RS.StepOK.pure 16 (by kernel_rfl) rfl (fun w => by kernel_rfl),
      RS.StepOK.load 17 (setT b) (by kernel_rfl) (by kernel_rfl) rfl (fun w hS => run_load rfl (by kernel_rfl) (load_set hS.2.1)),
      RS.StepOK.call 18 6 #[setT b] (.bool false) (by kernel_rfl) (by kernel_rfl) rfl (fun w => by kernel_rfl) (fun w hS => (sundialref22_Right.calls _ _ _ false w RB.out).mono (by rintro e w' ⟨rfl, hb⟩; exact ⟨rfl, hS.met hb⟩)),
      RS.StepOK.pure 19 (by kernel_rfl) rfl (fun w => by kernel_rfl),
      RS.StepOK.pure 20 (by kernel_rfl) rfl (fun w => by kernel_rfl),
      RS.StepOK.pure 21 (by kernel_rfl) rfl (fun w => by kernel_rfl),
      RS.StepOK.off 22 (by kernel_rfl) rfl (by kernel_rfl),
      RS.StepOK.off 23 (by kernel_rfl) rfl (by kernel_rfl),
      RS.StepOK.off 24 (by kernel_rfl) rfl (by kernel_rfl),
      RS.StepOK.pure 25 (by kernel_rfl) rfl (fun w => by kernel_rfl),
      RS.StepOK.pure 26 (by kernel_rfl) rfl (fun w => by kernel_rfl),
      RS.StepOK.off 27 (by kernel_rfl) rfl (by kernel_rfl),
      RS.StepOK.off 28 (by kernel_rfl) rfl (by kernel_rfl),
      RS.StepOK.off 29 (by kernel_rfl) rfl (by kernel_rfl),
      RS.StepOK.pure 30 (by kernel_rfl) rfl (fun w => by kernel_rfl),
      RS.StepOK.pure 31 (by kernel_rfl) rfl (fun w => by kernel_rfl),
      RS.StepOK.off 32 (by kernel_rfl) rfl (by kernel_rfl),
      RS.StepOK.off 33 (by kernel_rfl) rfl (by kernel_rfl),
      RS.StepOK.off 34 (by kernel_rfl) rfl (by kernel_rfl),
      RS.StepOK.pure 35 (by kernel_rfl) rfl (fun w => by kernel_rfl), trivial⟩
  rintro w2 hs
  clear HS
  have HS := Aside0.mk hs
  clear hs
  (try simp only [RS.sets, List.setIfInBounds_toArray, List.set_cons_zero, List.set_cons_succ])
  go_wp2_with (go_at_call 8; refine (wakes_calls _ HS.out.2.2.2.1).mono ?_; rintro e w3 ⟨rfl, hb⟩)
  go_ret
  exact ⟨rfl, below_step HS.out.2.2.2.2 hb⟩
set_option maxHeartbeats 8000000 in
set_option maxRecDepth 100000 in
theorem in_not2 (a b c : T3) (w0 : World) (hT : Tab w0) (RA : Aside0 (sundialref22_Right.f a.1 a.2.1 a.2.2 = some true)) (RB : Aside0 (sundialref22_Right.f b.1 b.2.1 b.2.2 = some true)) (RC : Aside0 (sundialref22_Right.f c.1 c.2.1 c.2.2 = some false)) : Calls Tryd.prog 3 #[setT a, setT b, setT c] w0 fun e w' => e = .returned (.bool true) ∧ Below w0.heap.size w0 w' := by
  have hs0 : OrS w0 w0.heap.size (w0.heap.size + 1) (w0.heap.size + 2) a b c (((w0.alloc (.cells (setK a) 24)).alloc (.cells (setK b) 24)).alloc (.cells (setK c) 24)) := by
    have hb : Below w0.heap.size w0 (((w0.alloc (.cells (setK a) 24)).alloc (.cells (setK b) 24)).alloc (.cells (setK c) 24)) := bX_ (bX_ (bX_ (Below.refl _ _) _) _) _
    have b0 := World.alloc_heap_new w0 (.cells (setK a) 24)
    have b1 := World.alloc_heap_new (w0.alloc (.cells (setK a) 24)) (.cells (setK b) 24)
    have b2 := World.alloc_heap_new ((w0.alloc (.cells (setK a) 24)).alloc (.cells (setK b) 24)) (.cells (setK c) 24)
    simp only [World.size_alloc] at b1 b2
    exact ⟨(Below.heap_alloc _ _ _ (by simp; omega)).trans ((Below.heap_alloc _ _ _ (by simp)).trans b0), (Below.heap_alloc _ _ _ (by simp)).trans b1, b2, hT.below hb, hb⟩
  have hlt := hT.lt
  have HS := Aside0.mk hs0
  clear hs0 hT
  go_enter Tryd.func3, Tryd.ntmps3
  go_upto_region 1 with (fail)
  generalize ((w0.alloc (.cells (setK a) 24)).alloc (.cells (setK b) 24)).alloc (.cells (setK c) 24) = w1 at *
  obtain ⟨g0, hg0⟩ : ∃ g, w0.heap.size = g := ⟨_, rfl⟩
  have HG0 := Aside0.mk hg0
  obtain ⟨g1, hg1⟩ : ∃ g, w0.heap.size + 1 = g := ⟨_, rfl⟩
  obtain ⟨g2, hg2⟩ : ∃ g, w0.heap.size + 2 = g := ⟨_, rfl⟩
  have e2 : w0.heap.size + 1 + 1 = g2 := hg2
  (try rw [e2])
  (try rw [hg1])
  rw [hg2, hg1, hg0] at HS
  (try rw [hg0])
  clear hg0 hg1 hg2 e2 hlt
  refine RS.wp_text [(13, setT a), (14, .bool true), (15, .bool false), (16, .bool false), (17, setT b), (18, .bool true), (19, .bool false), (20, .bool false), (21, .bool false), (22, setT c), (23, .bool false), (24, .bool true), (25, .bool true), (26, .bool true), (27, undef), (28, undef), (29, undef), (30, .bool true), (31, .bool true), (32, undef), (33, undef), (34, undef), (35, .bool true)] (OrS w0 g0 g1 g2 a b c) (by kernel_rfl) (by kernel_rfl) HS.out ?_ ?_
  · exact ⟨RS.StepOK.load 13 (setT a) (by kernel_rfl) (by kernel_rfl) rfl (fun w hS => run_load rfl (by kernel_rfl) (load_set hS.1)),
      RS.StepOK.call 14 6 #[setT a] (.bool true) (by kernel_rfl) (by kernel_rfl) rfl (fun w => by kernel_rfl) (fun w hS => (sundialref22_Right.calls _ _ _ true w RA.out).mono (by rintro e w' ⟨rfl, hb⟩; exact ⟨rfl, hS.met hb⟩)),
      RS.StepOK.pure 15 (by kernel_rfl) rfl (fun w => by kernel_rfl),
      RS.StepOK.pure 16 (by kernel_rfl) rfl (fun w => by kernel_rfl),
      RS.StepOK.load 17 (setT b) (by kernel_rfl) (by kernel_rfl) rfl (fun w hS => run_load rfl (by kernel_rfl) (load_set hS.2.1)),
      RS.StepOK.call 18 6 #[setT b] (.bool true) (by kernel_rfl) (by kernel_rfl) rfl (fun w => by kernel_rfl) (fun w hS => (sundialref22_Right.calls _ _ _ true w RB.out).mono (by rintro e w' ⟨rfl, hb⟩; exact ⟨rfl, hS.met hb⟩)),
      RS.StepOK.pure 19 (by kernel_rfl) rfl (fun w => by kernel_rfl),
      RS.StepOK.pure 20 (by kernel_rfl) rfl (fun w => by kernel_rfl),
      RS.StepOK.pure 21 (by kernel_rfl) rfl (fun w => by kernel_rfl),
      RS.StepOK.load 22 (setT c) (by kernel_rfl) (by kernel_rfl) rfl (fun w hS => run_load rfl (by kernel_rfl) (load_set hS.2.2.1)),
      RS.StepOK.call 23 6 #[setT c] (.bool false) (by kernel_rfl) (by kernel_rfl) rfl (fun w => by kernel_rfl) (fun w hS => (sundialref22_Right.calls _ _ _ false w RC.out).mono (by rintro e w' ⟨rfl, hb⟩; exact ⟨rfl, hS.met hb⟩)),
      RS.StepOK.pure 24 (by kernel_rfl) rfl (fun w => by kernel_rfl),
      RS.StepOK.pure 25 (by kernel_rfl) rfl (fun w => by kernel_rfl),
      RS.StepOK.pure 26 (by kernel_rfl) rfl (fun w => by kernel_rfl),
      RS.StepOK.off 27 (by kernel_rfl) rfl (by kernel_rfl),
      RS.StepOK.off 28 (by kernel_rfl) rfl (by kernel_rfl),
      RS.StepOK.off 29 (by kernel_rfl) rfl (by kernel_rfl),
      RS.StepOK.pure 30 (by kernel_rfl) rfl (fun w => by kernel_rfl),
      RS.StepOK.pure 31 (by kernel_rfl) rfl (fun w => by kernel_rfl),
      RS.StepOK.off 32 (by kernel_rfl) rfl (by kernel_rfl),
      RS.StepOK.off 33 (by kernel_rfl) rfl (by kernel_rfl),
      RS.StepOK.off 34 (by kernel_rfl) rfl (by kernel_rfl),
      RS.StepOK.pure 35 (by kernel_rfl) rfl (fun w => by kernel_rfl), trivial⟩
  rintro w2 hs
  clear HS
  have HS := Aside0.mk hs
  clear hs
  (try simp only [RS.sets, List.setIfInBounds_toArray, List.set_cons_zero, List.set_cons_succ])
  go_wp2_with (go_at_call 8; refine (wakes_calls _ HS.out.2.2.2.1).mono ?_; rintro e w3 ⟨rfl, hb⟩)
  go_ret
  exact ⟨rfl, below_step HS.out.2.2.2.2 hb⟩
set_option maxHeartbeats 8000000 in
set_option maxRecDepth 100000 in
theorem in_not3 (a b c : T3) (w0 : World) (hT : Tab w0) (RA : Aside0 (sundialref22_Right.f a.1 a.2.1 a.2.2 = some true)) (RB : Aside0 (sundialref22_Right.f b.1 b.2.1 b.2.2 = some true)) (RC : Aside0 (sundialref22_Right.f c.1 c.2.1 c.2.2 = some true)) (OA : Aside0 (Ok a)) (OB : Aside0 (Ok b)) (OC : Aside0 (Ok c)) (MA : Aside0 (200 < manyT a)) : Calls Tryd.prog 3 #[setT a, setT b, setT c] w0 fun e w' => e = .returned (.bool true) ∧ Below w0.heap.size w0 w' := by
  have hs0 : OrS w0 w0.heap.size (w0.heap.size + 1) (w0.heap.size + 2) a b c (((w0.alloc (.cells (setK a) 24)).alloc (.cells (setK b) 24)).alloc (.cells (setK c) 24)) := by
    have hb : Below w0.heap.size w0 (((w0.alloc (.cells (setK a) 24)).alloc (.cells (setK b) 24)).alloc (.cells (setK c) 24)) := bX_ (bX_ (bX_ (Below.refl _ _) _) _) _
    have b0 := World.alloc_heap_new w0 (.cells (setK a) 24)
    have b1 := World.alloc_heap_new (w0.alloc (.cells (setK a) 24)) (.cells (setK b) 24)
    have b2 := World.alloc_heap_new ((w0.alloc (.cells (setK a) 24)).alloc (.cells (setK b) 24)) (.cells (setK c) 24)
    simp only [World.size_alloc] at b1 b2
    exact ⟨(Below.heap_alloc _ _ _ (by simp; omega)).trans ((Below.heap_alloc _ _ _ (by simp)).trans b0), (Below.heap_alloc _ _ _ (by simp)).trans b1, b2, hT.below hb, hb⟩
  have hlt := hT.lt
  have HS := Aside0.mk hs0
  clear hs0 hT
  go_enter Tryd.func3, Tryd.ntmps3
  go_upto_region 1 with (fail)
  generalize ((w0.alloc (.cells (setK a) 24)).alloc (.cells (setK b) 24)).alloc (.cells (setK c) 24) = w1 at *
  obtain ⟨g0, hg0⟩ : ∃ g, w0.heap.size = g := ⟨_, rfl⟩
  have HG0 := Aside0.mk hg0
  obtain ⟨g1, hg1⟩ : ∃ g, w0.heap.size + 1 = g := ⟨_, rfl⟩
  obtain ⟨g2, hg2⟩ : ∃ g, w0.heap.size + 2 = g := ⟨_, rfl⟩
  have e2 : w0.heap.size + 1 + 1 = g2 := hg2
  (try rw [e2])
  (try rw [hg1])
  rw [hg2, hg1, hg0] at HS
  (try rw [hg0])
  clear hg0 hg1 hg2 e2 hlt
  refine RS.wp_text [(13, setT a), (14, .bool true), (15, .bool false), (16, .bool false), (17, setT b), (18, .bool true), (19, .bool false), (20, .bool false), (21, .bool false), (22, setT c), (23, .bool true), (24, .bool false), (25, .bool false), (26, .bool false), (27, setT a), (28, (.int .u64 (manyT a))), (29, .bool true), (30, .bool true), (31, .bool true), (32, undef), (33, undef), (34, undef), (35, .bool true)] (OrS w0 g0 g1 g2 a b c) (by kernel_rfl) (by kernel_rfl) HS.out ?_ ?_
  · exact ⟨RS.StepOK.load 13 (setT a) (by kernel_rfl) (by kernel_rfl) rfl (fun w hS => run_load rfl (by kernel_rfl) (load_set hS.1)),
      RS.StepOK.call 14 6 #[setT a] (.bool true) (by kernel_rfl) (by kernel_rfl) rfl (fun w => by kernel_rfl) (fun w hS => (sundialref22_Right.calls _ _ _ true w RA.out).mono (by rintro e w' ⟨rfl, hb⟩; exact ⟨rfl, hS.met hb⟩)),
      RS.StepOK.pure 15 (by kernel_rfl) rfl (fun w => by kernel_rfl),
      RS.StepOK.pure 16 (by kernel_rfl) rfl (fun w => by kernel_rfl),
      RS.StepOK.load 17 (setT b) (by kernel_rfl) (by kernel_rfl) rfl (fun w hS => run_load rfl (by kernel_rfl) (load_set hS.2.1)),
      RS.StepOK.call 18 6 #[setT b] (.bool true) (by kernel_rfl) (by kernel_rfl) rfl (fun w => by kernel_rfl) (fun w hS => (sundialref22_Right.calls _ _ _ true w RB.out).mono (by rintro e w' ⟨rfl, hb⟩; exact ⟨rfl, hS.met hb⟩)),
      RS.StepOK.pure 19 (by kernel_rfl) rfl (fun w => by kernel_rfl),
      RS.StepOK.pure 20 (by kernel_rfl) rfl (fun w => by kernel_rfl),
      RS.StepOK.pure 21 (by kernel_rfl) rfl (fun w => by kernel_rfl),
      RS.StepOK.load 22 (setT c) (by kernel_rfl) (by kernel_rfl) rfl (fun w hS => run_load rfl (by kernel_rfl) (load_set hS.2.2.1)),
      RS.StepOK.call 23 6 #[setT c] (.bool true) (by kernel_rfl) (by kernel_rfl) rfl (fun w => by kernel_rfl) (fun w hS => (sundialref22_Right.calls _ _ _ true w RC.out).mono (by rintro e w' ⟨rfl, hb⟩; exact ⟨rfl, hS.met hb⟩)),
      RS.StepOK.pure 24 (by kernel_rfl) rfl (fun w => by kernel_rfl),
      RS.StepOK.pure 25 (by kernel_rfl) rfl (fun w => by kernel_rfl),
      RS.StepOK.pure 26 (by kernel_rfl) rfl (fun w => by kernel_rfl),
      RS.StepOK.load 27 (setT a) (by kernel_rfl) (by kernel_rfl) rfl (fun w hS => run_load rfl (by kernel_rfl) (load_set hS.1)),
      RS.StepOK.call 28 7 #[setT a] ((.int .u64 (manyT a))) (by kernel_rfl) (by kernel_rfl) rfl (fun w => by kernel_rfl) (fun w hS => (rmany_calls OA.out w).mono (by rintro e w' ⟨rfl, hb⟩; exact ⟨rfl, hS.met hb⟩)),
      RS.StepOK.load 29 (.bool true) (by kernel_rfl) (by kernel_rfl) rfl (fun w hS => run_bin rfl (by kernel_rfl) (by kernel_rfl) (by kernel_rfl) (gtr_t MA.out w)),
      RS.StepOK.pure 30 (by kernel_rfl) rfl (fun w => by kernel_rfl),
      RS.StepOK.pure 31 (by kernel_rfl) rfl (fun w => by kernel_rfl),
      RS.StepOK.off 32 (by kernel_rfl) rfl (by kernel_rfl),
      RS.StepOK.off 33 (by kernel_rfl) rfl (by kernel_rfl),
      RS.StepOK.off 34 (by kernel_rfl) rfl (by kernel_rfl),
      RS.StepOK.pure 35 (by kernel_rfl) rfl (fun w => by kernel_rfl), trivial⟩
  rintro w2 hs
  clear HS
  have HS := Aside0.mk hs
  clear hs
  (try simp only [RS.sets, List.setIfInBounds_toArray, List.set_cons_zero, List.set_cons_succ])
  go_wp2_with (go_at_call 8; refine (wakes_calls _ HS.out.2.2.2.1).mono ?_; rintro e w3 ⟨rfl, hb⟩)
  go_ret
  exact ⟨rfl, below_step HS.out.2.2.2.2 hb⟩
set_option maxHeartbeats 8000000 in
set_option maxRecDepth 100000 in
theorem in_not4 (a b c : T3) (w0 : World) (hT : Tab w0) (RA : Aside0 (sundialref22_Right.f a.1 a.2.1 a.2.2 = some true)) (RB : Aside0 (sundialref22_Right.f b.1 b.2.1 b.2.2 = some true)) (RC : Aside0 (sundialref22_Right.f c.1 c.2.1 c.2.2 = some true)) (OA : Aside0 (Ok a)) (OB : Aside0 (Ok b)) (OC : Aside0 (Ok c)) (MA : Aside0 (manyT a ≤ 200)) (MB : Aside0 (200 < manyT b)) : Calls Tryd.prog 3 #[setT a, setT b, setT c] w0 fun e w' => e = .returned (.bool true) ∧ Below w0.heap.size w0 w' := by
  have hs0 : OrS w0 w0.heap.size (w0.heap.size + 1) (w0.heap.size + 2) a b c (((w0.alloc (.cells (setK a) 24)).alloc (.cells (setK b) 24)).alloc (.cells (setK c) 24)) := by
    have hb : Below w0.heap.size w0 (((w0.alloc (.cells (setK a) 24)).alloc (.cells (setK b) 24)).alloc (.cells (setK c) 24)) := bX_ (bX_ (bX_ (Below.refl _ _) _) _) _
    have b0 := World.alloc_heap_new w0 (.cells (setK a) 24)
    have b1 := World.alloc_heap_new (w0.alloc (.cells (setK a) 24)) (.cells (setK b) 24)
    have b2 := World.alloc_heap_new ((w0.alloc (.cells (setK a) 24)).alloc (.cells (setK b) 24)) (.cells (setK c) 24)
    simp only [World.size_alloc] at b1 b2
    exact ⟨(Below.heap_alloc _ _ _ (by simp; omega)).trans ((Below.heap_alloc _ _ _ (by simp)).trans b0), (Below.heap_alloc _ _ _ (by simp)).trans b1, b2, hT.below hb, hb⟩
  have hlt := hT.lt
  have HS := Aside0.mk hs0
  clear hs0 hT
  go_enter Tryd.func3, Tryd.ntmps3
  go_upto_region 1 with (fail)
  generalize ((w0.alloc (.cells (setK a) 24)).alloc (.cells (setK b) 24)).alloc (.cells (setK c) 24) = w1 at *
  obtain ⟨g0, hg0⟩ : ∃ g, w0.heap.size = g := ⟨_, rfl⟩
  have HG0 := Aside0.mk hg0
  obtain ⟨g1, hg1⟩ : ∃ g, w0.heap.size + 1 = g := ⟨_, rfl⟩
  obtain ⟨g2, hg2⟩ : ∃ g, w0.heap.size + 2 = g := ⟨_, rfl⟩
  have e2 : w0.heap.size + 1 + 1 = g2 := hg2
  (try rw [e2])
  (try rw [hg1])
  rw [hg2, hg1, hg0] at HS
  (try rw [hg0])
  clear hg0 hg1 hg2 e2 hlt
  refine RS.wp_text [(13, setT a), (14, .bool true), (15, .bool false), (16, .bool false), (17, setT b), (18, .bool true), (19, .bool false), (20, .bool false), (21, .bool false), (22, setT c), (23, .bool true), (24, .bool false), (25, .bool false), (26, .bool false), (27, setT a), (28, (.int .u64 (manyT a))), (29, .bool false), (30, .bool false), (31, .bool false), (32, setT b), (33, (.int .u64 (manyT b))), (34, .bool true), (35, .bool true)] (OrS w0 g0 g1 g2 a b c) (by kernel_rfl) (by kernel_rfl) HS.out ?_ ?_
  · exact ⟨RS.StepOK.load 13 (setT a) (by kernel_rfl) (by kernel_rfl) rfl (fun w hS => run_load rfl (by kernel_rfl) (load_set hS.1)),
      RS.StepOK.call 14 6 #[setT a] (.bool true) (by kernel_rfl) (by kernel_rfl) rfl (fun w => by kernel_rfl) (fun w hS => (sundialref22_Right.calls _ _ _ true w RA.out).mono (by rintro e w' ⟨rfl, hb⟩; exact ⟨rfl, hS.met hb⟩)),
      RS.StepOK.pure 15 (by kernel_rfl) rfl (fun w => by kernel_rfl),
      RS.StepOK.pure 16 (by kernel_rfl) rfl (fun w => by kernel_rfl),
      RS.StepOK.load 17 (setT b) (by kernel_rfl) (by kernel_rfl) rfl (fun w hS => run_load rfl (by kernel_rfl) (load_set hS.2.1)),
      RS.StepOK.call 18 6 #[setT b] (.bool true) (by kernel_rfl) (by kernel_rfl) rfl (fun w => by kernel_rfl) (fun w hS => (sundialref22_Right.calls _ _ _ true w RB.out).mono (by rintro e w' ⟨rfl, hb⟩; exact ⟨rfl, hS.met hb⟩)),
      RS.StepOK.pure 19 (by kernel_rfl) rfl (fun w => by kernel_rfl),
      RS.StepOK.pure 20 (by kernel_rfl) rfl (fun w => by kernel_rfl),
      RS.StepOK.pure 21 (by kernel_rfl) rfl (fun w => by kernel_rfl),
      RS.StepOK.load 22 (setT c) (by kernel_rfl) (by kernel_rfl) rfl (fun w hS => run_load rfl (by kernel_rfl) (load_set hS.2.2.1)),
      RS.StepOK.call 23 6 #[setT c] (.bool true) (by kernel_rfl) (by kernel_rfl) rfl (fun w => by kernel_rfl) (fun w hS => (sundialref22_Right.calls _ _ _ true w RC.out).mono (by rintro e w' ⟨rfl, hb⟩; exact ⟨rfl, hS.met hb⟩)),
      RS.StepOK.pure 24 (by kernel_rfl) rfl (fun w => by kernel_rfl),
      RS.StepOK.pure 25 (by kernel_rfl) rfl (fun w => by kernel_rfl),
      RS.StepOK.pure 26 (by kernel_rfl) rfl (fun w => by kernel_rfl),
      RS.StepOK.load 27 (setT a) (by kernel_rfl) (by kernel_rfl) rfl (fun w hS => run_load rfl (by kernel_rfl) (load_set hS.1)),
      RS.StepOK.call 28 7 #[setT a] ((.int .u64 (manyT a))) (by kernel_rfl) (by kernel_rfl) rfl (fun w => by kernel_rfl) (fun w hS => (rmany_calls OA.out w).mono (by rintro e w' ⟨rfl, hb⟩; exact ⟨rfl, hS.met hb⟩)),
      RS.StepOK.load 29 (.bool false) (by kernel_rfl) (by kernel_rfl) rfl (fun w hS => run_bin rfl (by kernel_rfl) (by kernel_rfl) (by kernel_rfl) (gtr_f MA.out w)),
      RS.StepOK.pure 30 (by kernel_rfl) rfl (fun w => by kernel_rfl),
      RS.StepOK.pure 31 (by kernel_rfl) rfl (fun w => by kernel_rfl),
      RS.StepOK.load 32 (setT b) (by kernel_rfl) (by kernel_rfl) rfl (fun w hS => run_load rfl (by kernel_rfl) (load_set hS.2.1)),
      RS.StepOK.call 33 7 #[setT b] ((.int .u64 (manyT b))) (by kernel_rfl) (by kernel_rfl) rfl (fun w => by kernel_rfl) (fun w hS => (rmany_calls OB.out w).mono (by rintro e w' ⟨rfl, hb⟩; exact ⟨rfl, hS.met hb⟩)),
      RS.StepOK.load 34 (.bool true) (by kernel_rfl) (by kernel_rfl) rfl (fun w hS => run_bin rfl (by kernel_rfl) (by kernel_rfl) (by kernel_rfl) (gtr_t MB.out w)),
      RS.StepOK.pure 35 (by kernel_rfl) rfl (fun w => by kernel_rfl), trivial⟩
  rintro w2 hs
  clear HS
  have HS := Aside0.mk hs
  clear hs
  (try simp only [RS.sets, List.setIfInBounds_toArray, List.set_cons_zero, List.set_cons_succ])
  go_wp2_with (go_at_call 8; refine (wakes_calls _ HS.out.2.2.2.1).mono ?_; rintro e w3 ⟨rfl, hb⟩)
  go_ret
  exact ⟨rfl, below_step HS.out.2.2.2.2 hb⟩
set_option maxHeartbeats 8000000 in
set_option maxRecDepth 100000 in
theorem in_true (a b c : T3) (w0 : World) (hT : Tab w0) (RA : Aside0 (sundialref22_Right.f a.1 a.2.1 a.2.2 = some true)) (RB : Aside0 (sundialref22_Right.f b.1 b.2.1 b.2.2 = some true)) (RC : Aside0 (sundialref22_Right.f c.1 c.2.1 c.2.2 = some true)) (OA : Aside0 (Ok a)) (OB : Aside0 (Ok b)) (OC : Aside0 (Ok c)) (MA : Aside0 (manyT a ≤ 200)) (MB : Aside0 (manyT b ≤ 200)) : Calls Tryd.prog 3 #[setT a, setT b, setT c] w0 fun e w' => e = .returned (.bool true) ∧ Below w0.heap.size w0 w' := by
  have hn0 : 0 ≤ manyT a := by have := valsT_len OA.out MA.out; omega
  obtain ⟨n, hn⟩ : ∃ n : Nat, manyT a = (n : Int) := ⟨(manyT a).toNat, by omega⟩
  have hn200 : n ≤ 200 := by have := MA.out; omega
  have hln : (valsT a).length = n := by have := valsT_len OA.out MA.out; omega
  have HN := Aside0.mk hn
  have HLN := Aside0.mk hln
  have hai := allF_in OA.out OB.out MA.out
  rw [hn] at hai
  have HAI := Aside0.mk (show allF b a.2.1 a.1 n = inT a b from hai)
  have J1 := Aside0.mk (inT_join1 OA.out OB.out)
  have J2 := Aside0.mk (inT_join2 OA.out OB.out)
  have JC := Aside0.mk (joinT_comm OA.out OB.out)
  have JA := Aside0.mk (joinT_self OA.out)
  have OJ := Aside0.mk (join_ok OA.out OB.out)
  have JL := Aside0.mk (fun (h : inT a c = true) (k : inT b c = true) => inT_lub OA.out OB.out h k)
  obtain ⟨j, hj⟩ : ∃ t, joinT a b = t := ⟨_, rfl⟩
  have HJ := Aside0.mk hj
  rw [hj] at J1 J2 JC OJ JL
  clear hn hln hai hj hn0
  have hs0 : OrS w0 w0.heap.size (w0.heap.size + 1) (w0.heap.size + 2) a b c (((w0.alloc (.cells (setK a) 24)).alloc (.cells (setK b) 24)).alloc (.cells (setK c) 24)) := by
    have hb : Below w0.heap.size w0 (((w0.alloc (.cells (setK a) 24)).alloc (.cells (setK b) 24)).alloc (.cells (setK c) 24)) := bX_ (bX_ (bX_ (Below.refl _ _) _) _) _
    have b0 := World.alloc_heap_new w0 (.cells (setK a) 24)
    have b1 := World.alloc_heap_new (w0.alloc (.cells (setK a) 24)) (.cells (setK b) 24)
    have b2 := World.alloc_heap_new ((w0.alloc (.cells (setK a) 24)).alloc (.cells (setK b) 24)) (.cells (setK c) 24)
    simp only [World.size_alloc] at b1 b2
    exact ⟨(Below.heap_alloc _ _ _ (by simp; omega)).trans ((Below.heap_alloc _ _ _ (by simp)).trans b0), (Below.heap_alloc _ _ _ (by simp)).trans b1, b2, hT.below hb, hb⟩
  have hlt := hT.lt
  have HS := Aside0.mk hs0
  clear hs0 hT
  go_enter Tryd.func3, Tryd.ntmps3
  go_upto_region 1 with (fail)
  generalize ((w0.alloc (.cells (setK a) 24)).alloc (.cells (setK b) 24)).alloc (.cells (setK c) 24) = w1 at *
  obtain ⟨g0, hg0⟩ : ∃ g, w0.heap.size = g := ⟨_, rfl⟩
  have HG0 := Aside0.mk hg0
  obtain ⟨g1, hg1⟩ : ∃ g, w0.heap.size + 1 = g := ⟨_, rfl⟩
  obtain ⟨g2, hg2⟩ : ∃ g, w0.heap.size + 2 = g := ⟨_, rfl⟩
  have e2 : w0.heap.size + 1 + 1 = g2 := hg2
  (try rw [e2])
  (try rw [hg1])
  rw [hg2, hg1, hg0] at HS
  (try rw [hg0])
  clear hg0 hg1 hg2 e2 hlt
  refine RS.wp_text [(13, setT a), (14, .bool true), (15, .bool false), (16, .bool false), (17, setT b), (18, .bool true), (19, .bool false), (20, .bool false), (21, .bool false), (22, setT c), (23, .bool true), (24, .bool false), (25, .bool false), (26, .bool false), (27, setT a), (28, (.int .u64 (manyT a))), (29, .bool false), (30, .bool false), (31, .bool false), (32, setT b), (33, (.int .u64 (manyT b))), (34, .bool false), (35, .bool false)] (OrS w0 g0 g1 g2 a b c) (by kernel_rfl) (by kernel_rfl) HS.out ?_ ?_
  · exact ⟨RS.StepOK.load 13 (setT a) (by kernel_rfl) (by kernel_rfl) rfl (fun w hS => run_load rfl (by kernel_rfl) (load_set hS.1)),
      RS.StepOK.call 14 6 #[setT a] (.bool true) (by kernel_rfl) (by kernel_rfl) rfl (fun w => by kernel_rfl) (fun w hS => (sundialref22_Right.calls _ _ _ true w RA.out).mono (by rintro e w' ⟨rfl, hb⟩; exact ⟨rfl, hS.met hb⟩)),
      RS.StepOK.pure 15 (by kernel_rfl) rfl (fun w => by kernel_rfl),
      RS.StepOK.pure 16 (by kernel_rfl) rfl (fun w => by kernel_rfl),
      RS.StepOK.load 17 (setT b) (by kernel_rfl) (by kernel_rfl) rfl (fun w hS => run_load rfl (by kernel_rfl) (load_set hS.2.1)),
      RS.StepOK.call 18 6 #[setT b] (.bool true) (by kernel_rfl) (by kernel_rfl) rfl (fun w => by kernel_rfl) (fun w hS => (sundialref22_Right.calls _ _ _ true w RB.out).mono (by rintro e w' ⟨rfl, hb⟩; exact ⟨rfl, hS.met hb⟩)),
      RS.StepOK.pure 19 (by kernel_rfl) rfl (fun w => by kernel_rfl),
      RS.StepOK.pure 20 (by kernel_rfl) rfl (fun w => by kernel_rfl),
      RS.StepOK.pure 21 (by kernel_rfl) rfl (fun w => by kernel_rfl),
      RS.StepOK.load 22 (setT c) (by kernel_rfl) (by kernel_rfl) rfl (fun w hS => run_load rfl (by kernel_rfl) (load_set hS.2.2.1)),
      RS.StepOK.call 23 6 #[setT c] (.bool true) (by kernel_rfl) (by kernel_rfl) rfl (fun w => by kernel_rfl) (fun w hS => (sundialref22_Right.calls _ _ _ true w RC.out).mono (by rintro e w' ⟨rfl, hb⟩; exact ⟨rfl, hS.met hb⟩)),
      RS.StepOK.pure 24 (by kernel_rfl) rfl (fun w => by kernel_rfl),
      RS.StepOK.pure 25 (by kernel_rfl) rfl (fun w => by kernel_rfl),
      RS.StepOK.pure 26 (by kernel_rfl) rfl (fun w => by kernel_rfl),
      RS.StepOK.load 27 (setT a) (by kernel_rfl) (by kernel_rfl) rfl (fun w hS => run_load rfl (by kernel_rfl) (load_set hS.1)),
      RS.StepOK.call 28 7 #[setT a] ((.int .u64 (manyT a))) (by kernel_rfl) (by kernel_rfl) rfl (fun w => by kernel_rfl) (fun w hS => (rmany_calls OA.out w).mono (by rintro e w' ⟨rfl, hb⟩; exact ⟨rfl, hS.met hb⟩)),
      RS.StepOK.load 29 (.bool false) (by kernel_rfl) (by kernel_rfl) rfl (fun w hS => run_bin rfl (by kernel_rfl) (by kernel_rfl) (by kernel_rfl) (gtr_f MA.out w)),
      RS.StepOK.pure 30 (by kernel_rfl) rfl (fun w => by kernel_rfl),
      RS.StepOK.pure 31 (by kernel_rfl) rfl (fun w => by kernel_rfl),
      RS.StepOK.load 32 (setT b) (by kernel_rfl) (by kernel_rfl) rfl (fun w hS => run_load rfl (by kernel_rfl) (load_set hS.2.1)),
      RS.StepOK.call 33 7 #[setT b] ((.int .u64 (manyT b))) (by kernel_rfl) (by kernel_rfl) rfl (fun w => by kernel_rfl) (fun w hS => (rmany_calls OB.out w).mono (by rintro e w' ⟨rfl, hb⟩; exact ⟨rfl, hS.met hb⟩)),
      RS.StepOK.load 34 (.bool false) (by kernel_rfl) (by kernel_rfl) rfl (fun w hS => run_bin rfl (by kernel_rfl) (by kernel_rfl) (by kernel_rfl) (gtr_f MB.out w)),
      RS.StepOK.pure 35 (by kernel_rfl) rfl (fun w => by kernel_rfl), trivial⟩
  rintro w2 hs
  clear HS
  have HS := Aside0.mk hs
  clear hs
  (try simp only [RS.sets, List.setIfInBounds_toArray, List.set_cons_zero, List.set_cons_succ])
  go_upto_region 4 with (fail)
  refine RS.wp_text [(37, setT a), (38, .int .u64 (n : Int)), (8, .int .u64 (n : Int))] (OrS w0 g0 g1 g2 a b c) (by kernel_rfl) (by kernel_rfl) HS.out ?_ ?_
  · exact ⟨RS.StepOK.load 37 (setT a) (by kernel_rfl) (by kernel_rfl) rfl (fun w hS => run_load rfl (by kernel_rfl) (load_set hS.1)),
      RS.StepOK.call 38 7 #[setT a] (.int .u64 (n : Int)) (by kernel_rfl) (by kernel_rfl) rfl (fun w => by kernel_rfl) (fun w hS => (rmany_calls OA.out w).mono (by rw [HN.out]; rintro e w' ⟨rfl, hb⟩; exact ⟨rfl, hS.met hb⟩)),
      RS.StepOK.pure 8 (by kernel_rfl) rfl (fun w => by kernel_rfl), trivial⟩
  rintro w3 hs
  clear HS
  have HS := Aside0.mk hs
  clear hs
  (try simp only [RS.sets, List.setIfInBounds_toArray, List.set_cons_zero, List.set_cons_succ])
  go_wp2_with fail
  go_loopw [7, 9] (fun u v wr => ∃ (i : Nat) (x : Bool), i ≤ n ∧ v = .int .u64 (i : Int) ∧ u = .bool x ∧ Aside0 (allF b a.2.1 a.1 i = x) ∧ OrS w0 g0 g1 g2 a b c wr) (fun _ v _ => n - (RowKit.intOf v).toNat)
  case atStart => exact ⟨0, true, by omega, rfl, rfl, ⟨rfl⟩, HS.out⟩
  case round =>
    obtain ⟨i, x, hi, rfl, rfl, HX, hs⟩ := hrel
    clear HS
    have HS := Aside0.mk hs
    clear hs
    by_cases hin : i < n
    · have hv := val_rg OA.out MA.out HN.out hin
      have HV := Aside0.mk hv
      clear hv
      go_upto_region 6 with (fail)
      refine RS.wp_text [(39, .int .u64 (i : Int)), (40, .int .u64 (n : Int)), (41, .bool true)] (OrS w0 g0 g1 g2 a b c) (by kernel_rfl) (by kernel_rfl) HS.out ?_ ?_
      · exact ⟨RS.StepOK.pure 39 (by kernel_rfl) rfl (fun w => by kernel_rfl),
          RS.StepOK.pure 40 (by kernel_rfl) rfl (fun w => by kernel_rfl),
          RS.StepOK.load 41 (.bool true) (by kernel_rfl) (by kernel_rfl) rfl (fun w hS => run_bin rfl (by kernel_rfl) (by kernel_rfl) (by kernel_rfl) (lssu_t (show (i : Int) < (n : Int) by omega) w)), trivial⟩
      rintro w4 hs
      clear HS
      have HS := Aside0.mk hs
      clear hs
      (try simp only [RS.sets, List.setIfInBounds_toArray, List.set_cons_zero, List.set_cons_succ])
      cases x
      · go_wp2_with fail
        go_roundw
        case rel => exact ⟨i + 1, false, by omega, by go_num, rfl, ⟨by show (allF b a.2.1 a.1 i && _) = _; rw [HX.out]; rfl⟩, HS.out⟩
        case measure => simp [RowKit.intOf]; omega
      · obtain ⟨⟨qa0, qa1, qa2⟩, -⟩ := rows3 HS.out.1
        obtain ⟨⟨qb0, qb1, qb2⟩, -⟩ := rows3 HS.out.2.1
        have hw1 : IntKind.u64.wrap ((i : Int) * a.1) = (i : Int) * a.1 := wrapU HV.out.1 (mul_hi OA.out HV.out.2)
        have hw2 : IntKind.u64.wrap (a.2.1 + (i : Int) * a.1) = a.2.1 + (i : Int) * a.1 := wrapU HV.out.2.1 HV.out.2.2
        go_wp2_with (go_at_call 9; refine (has_calls OB.out HV.out.2 _).mono ?_; rintro e w5 ⟨rfl, hb5⟩)
        clear hw1 hw2 qa0 qa1 qa2 qb0 qb1 qb2
        have hs := HS.out.met hb5
        clear HS hb5
        have HS := Aside0.mk hs
        clear hs
        go_roundw
        case rel => exact ⟨i + 1, hasT b (a.2.1 + (i : Int) * a.1), by omega, by go_num, rfl, ⟨by show (allF b a.2.1 a.1 i && _) = _; rw [HX.out]; rfl⟩, HS.out⟩
        case measure => simp [RowKit.intOf]; omega
    · have hie : n = i := by omega
      subst hie
      have hx := HX.out
      rw [HAI.out] at hx
      have BI := Aside0.mk hx
      clear hx HX HAI
      go_upto_region 6 with (fail)
      refine RS.wp_text [(39, .int .u64 (n : Int)), (40, .int .u64 (n : Int)), (41, .bool false)] (OrS w0 g0 g1 g2 a b c) (by kernel_rfl) (by kernel_rfl) HS.out ?_ ?_
      · exact ⟨RS.StepOK.pure 39 (by kernel_rfl) rfl (fun w => by kernel_rfl),
          RS.StepOK.pure 40 (by kernel_rfl) rfl (fun w => by kernel_rfl),
          RS.StepOK.load 41 (.bool false) (by kernel_rfl) (by kernel_rfl) rfl (fun w hS => run_bin rfl (by kernel_rfl) (by kernel_rfl) (by kernel_rfl) (lssu_f (Int.le_refl (n : Int)) w)), trivial⟩
      rintro w4 hs
      clear HS
      have HS := Aside0.mk hs
      clear hs
      (try simp only [RS.sets, List.setIfInBounds_toArray, List.set_cons_zero, List.set_cons_succ])
      obtain ⟨⟨qa0, qa1, qa2⟩, -⟩ := rows3 HS.out.1
      obtain ⟨⟨qb0, qb1, qb2⟩, -⟩ := rows3 HS.out.2.1
      go_upto_region 10 with (go_at_call 10; refine (join_calls OA.out OB.out _).mono ?_; rw [HJ.out]; rintro e w5 ⟨rfl, hb5⟩)
      clear qa0 qa1 qa2 qb0 qb1 qb2
      have hs5 := HS.out.met hb5
      clear HS hb5
      have hb6 : Below w5.heap.size w5 (w5.alloc (.cells (setK j) 24)) := bX_ (Below.refl _ _) _
      have hs : InS w0 g0 g1 g2 w5.heap.size a b c j (w5.alloc (.cells (setK j) 24)) := ⟨hs5.met hb6, World.alloc_heap_new w5 _⟩
      clear hs5 hb6
      generalize w5.heap.size = g3 at *
      generalize w5.alloc (.cells (setK j) 24) = w6 at *
      have HS := Aside0.mk hs
      clear hs
      refine RS.wp_drawn (by kernel_rfl) [(59, setT a), (60, setT b), (61, .bool x), (62, .bool x), (63, .bool false), (64, .bool false), (65, setT a), (66, setT j), (67, .bool true), (68, .bool false), (69, .bool false), (70, .bool false), (71, setT b), (72, setT j), (73, .bool true), (74, .bool false), (75, .bool false), (76, .bool false), (77, setT j), (78, setT b), (79, setT a), (80, setT j), (81, .bool false), (82, .bool false), (83, .bool false), (84, setT a), (85, setT a), (86, setT a), (87, setT a), (88, .bool false), (89, .bool false)] (InS w0 g0 g1 g2 g3 a b c j) (by kernel_rfl) (by kernel_rfl) HS.out.drew ?_ ?_
      · exact ⟨RS.StepOK.load 59 (setT a) (by kernel_rfl) (by kernel_rfl) rfl (fun w hS => run_load rfl (by kernel_rfl) (load_set hS.1.1)),
          RS.StepOK.load 60 (setT b) (by kernel_rfl) (by kernel_rfl) rfl (fun w hS => run_load rfl (by kernel_rfl) (load_set hS.1.2.1)),
          RS.StepOK.call 61 11 #[setT a, setT b] (.bool x) (by kernel_rfl) (by kernel_rfl) rfl (fun w => by kernel_rfl) (fun w hS => (in_calls (a := a) (b := b) OA.out OB.out w).mono (by rw [BI.out]; rintro e w' ⟨rfl, hb⟩; exact ⟨rfl, hS.met hb⟩)),
          RS.StepOK.pure 62 (by kernel_rfl) rfl (fun w => by kernel_rfl),
          RS.StepOK.load 63 (.bool false) (by kernel_rfl) (by kernel_rfl) rfl (fun w hS => run_bin rfl (by kernel_rfl) (by kernel_rfl) (by kernel_rfl) (neqb_f x w)),
          RS.StepOK.pure 64 (by kernel_rfl) rfl (fun w => by kernel_rfl),
          RS.StepOK.load 65 (setT a) (by kernel_rfl) (by kernel_rfl) rfl (fun w hS => run_load rfl (by kernel_rfl) (load_set hS.1.1)),
          RS.StepOK.load 66 (setT j) (by kernel_rfl) (by kernel_rfl) rfl (fun w hS => run_load rfl (by kernel_rfl) (load_set hS.2)),
          RS.StepOK.call 67 11 #[setT a, setT j] (.bool true) (by kernel_rfl) (by kernel_rfl) rfl (fun w => by kernel_rfl) (fun w hS => (in_calls (a := a) (b := j) OA.out OJ.out w).mono (by rw [J1.out]; rintro e w' ⟨rfl, hb⟩; exact ⟨rfl, hS.met hb⟩)),
          RS.StepOK.pure 68 (by kernel_rfl) rfl (fun w => by kernel_rfl),
          RS.StepOK.pure 69 (by kernel_rfl) rfl (fun w => by kernel_rfl),
          RS.StepOK.pure 70 (by kernel_rfl) rfl (fun w => by kernel_rfl),
          RS.StepOK.load 71 (setT b) (by kernel_rfl) (by kernel_rfl) rfl (fun w hS => run_load rfl (by kernel_rfl) (load_set hS.1.2.1)),
          RS.StepOK.load 72 (setT j) (by kernel_rfl) (by kernel_rfl) rfl (fun w hS => run_load rfl (by kernel_rfl) (load_set hS.2)),
          RS.StepOK.call 73 11 #[setT b, setT j] (.bool true) (by kernel_rfl) (by kernel_rfl) rfl (fun w => by kernel_rfl) (fun w hS => (in_calls (a := b) (b := j) OB.out OJ.out w).mono (by rw [J2.out]; rintro e w' ⟨rfl, hb⟩; exact ⟨rfl, hS.met hb⟩)),
          RS.StepOK.pure 74 (by kernel_rfl) rfl (fun w => by kernel_rfl),
          RS.StepOK.pure 75 (by kernel_rfl) rfl (fun w => by kernel_rfl),
          RS.StepOK.pure 76 (by kernel_rfl) rfl (fun w => by kernel_rfl),
          RS.StepOK.load 77 (setT j) (by kernel_rfl) (by kernel_rfl) rfl (fun w hS => run_load rfl (by kernel_rfl) (load_set hS.2)),
          RS.StepOK.load 78 (setT b) (by kernel_rfl) (by kernel_rfl) rfl (fun w hS => run_load rfl (by kernel_rfl) (load_set hS.1.2.1)),
          RS.StepOK.load 79 (setT a) (by kernel_rfl) (by kernel_rfl) rfl (fun w hS => run_load rfl (by kernel_rfl) (load_set hS.1.1)),
          RS.StepOK.call 80 10 #[setT b, setT a] (setT j) (by kernel_rfl) (by kernel_rfl) rfl (fun w => by kernel_rfl) (fun w hS => (join_calls OB.out OA.out w).mono (by rw [← JC.out]; rintro e w' ⟨rfl, hb⟩; exact ⟨rfl, hS.met hb⟩)),
          RS.StepOK.load 81 (.bool false) (by kernel_rfl) (by kernel_rfl) rfl (fun w hS => run_bin rfl (by kernel_rfl) (by kernel_rfl) (by kernel_rfl) (neq_same j w)),
          RS.StepOK.pure 82 (by kernel_rfl) rfl (fun w => by kernel_rfl),
          RS.StepOK.pure 83 (by kernel_rfl) rfl (fun w => by kernel_rfl),
          RS.StepOK.load 84 (setT a) (by kernel_rfl) (by kernel_rfl) rfl (fun w hS => run_load rfl (by kernel_rfl) (load_set hS.1.1)),
          RS.StepOK.load 85 (setT a) (by kernel_rfl) (by kernel_rfl) rfl (fun w hS => run_load rfl (by kernel_rfl) (load_set hS.1.1)),
          RS.StepOK.call 86 10 #[setT a, setT a] (setT a) (by kernel_rfl) (by kernel_rfl) rfl (fun w => by kernel_rfl) (fun w hS => (join_calls OA.out OA.out w).mono (by rw [JA.out]; rintro e w' ⟨rfl, hb⟩; exact ⟨rfl, hS.met hb⟩)),
          RS.StepOK.load 87 (setT a) (by kernel_rfl) (by kernel_rfl) rfl (fun w hS => run_load rfl (by kernel_rfl) (load_set hS.1.1)),
          RS.StepOK.load 88 (.bool false) (by kernel_rfl) (by kernel_rfl) rfl (fun w hS => run_bin rfl (by kernel_rfl) (by kernel_rfl) (by kernel_rfl) (neq_same a w)),
          RS.StepOK.pure 89 (by kernel_rfl) rfl (fun w => by kernel_rfl), trivial⟩
      rintro w7 hs
      clear HS
      have HS := Aside0.mk hs
      clear hs
      (try simp only [RS.sets, List.setIfInBounds_toArray, List.set_cons_zero, List.set_cons_succ])
      go_upto_region 12 with (fail)
      obtain ⟨ac, hac⟩ : ∃ x, inT a c = x := ⟨_, rfl⟩
      obtain ⟨bc, hbc⟩ : ∃ x, inT b c = x := ⟨_, rfl⟩
      have AC := Aside0.mk hac
      have BC := Aside0.mk hbc
      clear hac hbc
      cases ac
      · skip
        refine RS.wp_text [(90, setT a), (91, setT c), (92, .bool false), (93, .bool false), (94, undef), (95, undef), (96, undef), (97, .bool false), (98, .bool false), (99, undef), (100, undef), (101, undef), (102, undef), (103, .bool false)] (InS w0 g0 g1 g2 g3 a b c j) (by kernel_rfl) (by kernel_rfl) HS.out ?_ ?_
        · exact ⟨RS.StepOK.load 90 (setT a) (by kernel_rfl) (by kernel_rfl) rfl (fun w hS => run_load rfl (by kernel_rfl) (load_set hS.1.1)),
            RS.StepOK.load 91 (setT c) (by kernel_rfl) (by kernel_rfl) rfl (fun w hS => run_load rfl (by kernel_rfl) (load_set hS.1.2.2.1)),
            RS.StepOK.call 92 11 #[setT a, setT c] (.bool false) (by kernel_rfl) (by kernel_rfl) rfl (fun w => by kernel_rfl) (fun w hS => (in_calls (a := a) (b := c) OA.out OC.out w).mono (by rw [AC.out]; rintro e w' ⟨rfl, hb⟩; exact ⟨rfl, hS.met hb⟩)),
            RS.StepOK.pure 93 (by kernel_rfl) rfl (fun w => by kernel_rfl),
            RS.StepOK.off 94 (by kernel_rfl) rfl (by kernel_rfl),
            RS.StepOK.off 95 (by kernel_rfl) rfl (by kernel_rfl),
            RS.StepOK.off 96 (by kernel_rfl) rfl (by kernel_rfl),
            RS.StepOK.pure 97 (by kernel_rfl) rfl (fun w => by kernel_rfl),
            RS.StepOK.pure 98 (by kernel_rfl) rfl (fun w => by kernel_rfl),
            RS.StepOK.off 99 (by kernel_rfl) rfl (by kernel_rfl),
            RS.StepOK.off 100 (by kernel_rfl) rfl (by kernel_rfl),
            RS.StepOK.off 101 (by kernel_rfl) rfl (by kernel_rfl),
            RS.StepOK.off 102 (by kernel_rfl) rfl (by kernel_rfl),
            RS.StepOK.pure 103 (by kernel_rfl) rfl (fun w => by kernel_rfl), trivial⟩
        rintro w8 hs
        clear HS
        have HS := Aside0.mk hs
        clear hs
        (try simp only [RS.sets, List.setIfInBounds_toArray, List.set_cons_zero, List.set_cons_succ])
        obtain ⟨⟨qa0, qa1, qa2⟩, -⟩ := rows3 HS.out.1.1
        go_upto_region 15 with (go_at_call 12; refine (list_ok OA.out MA.out _).mono ?_; rintro e w9 ⟨v, rfl, hl, hb9⟩)
        clear qa0 qa1 qa2
        obtain ⟨A, cp, rfl⟩ : ∃ A c, v = .slice A n c := by
          obtain ⟨_, _, ho, _⟩ := hl
          have := own_slice ho
          rwa [HLN.out] at this
        have hs : InL w0 g0 g1 g2 g3 a b c j A n w9 := ⟨HS.out.met hb9, fun ad e i hi => by
          subst e
          have hr := (Kd.reads_of_C (enc := Value.int .u64) (d := (0 : Int)) (h1 := fun _ => rfl) (Kd.R_reads' hl).2.2).2.2
          rw [HLN.out] at hr
          obtain ⟨ad', e, hc⟩ := hr (by omega)
          injection e with e1; subst e1
          rw [hc i hi]
          have := valsT_get OA.out i (by rw [HLN.out]; exact hi)
          rw [List.getD_eq_getElem?_getD, this]
          rfl⟩
        have hA : 1 < n → ∃ ad, A = some ad := fun h => by
          have hr := (Kd.reads_of_C (enc := Value.int .u64) (d := (0 : Int)) (h1 := fun _ => rfl) (Kd.R_reads' hl).2.2).2.2
          rw [HLN.out] at hr
          obtain ⟨ad', e, -⟩ := hr (by omega)
          exact ⟨ad', e⟩
        have hst : 1 < n → 0 < a.1 := fun h => valsT_step OA.out MA.out (by rw [HLN.out]; exact h)
        have HA := Aside0.mk hA
        have HST := Aside0.mk hst
        clear HS hl hb9 hA hst
        have HS := Aside0.mk hs
        clear hs
        refine RS.wp_text [(106, .slice A n cp), (107, .int .i64 (n : Int)), (108, .int .u64 (IntKind.u64.wrap (n : Int))), (109, .int .u64 (n : Int)), (110, .bool false), (111, .bool false), (112, setT a), (113, .int .u64 (n : Int)), (114, .int .u64 (n : Int)), (115, .bool false), (116, .bool false)] (InL w0 g0 g1 g2 g3 a b c j A n) (by kernel_rfl) (by kernel_rfl) HS.out ?_ ?_
        · exact ⟨RS.StepOK.pure 106 (by kernel_rfl) rfl (fun w => by kernel_rfl),
            RS.StepOK.pure 107 (by kernel_rfl) rfl (fun w => by kernel_rfl),
            RS.StepOK.pure 108 (by kernel_rfl) rfl (fun w => by kernel_rfl),
            RS.StepOK.pure 109 (by kernel_rfl) rfl (fun w => by kernel_rfl),
            RS.StepOK.load 110 (.bool false) (by kernel_rfl) (by kernel_rfl) rfl (fun w hS => run_bin rfl (by kernel_rfl) (by kernel_rfl) (by kernel_rfl) (neqw_f (wrapU (x := (n : Int)) (by omega) (by omega)) w)),
            RS.StepOK.pure 111 (by kernel_rfl) rfl (fun w => by kernel_rfl),
            RS.StepOK.load 112 (setT a) (by kernel_rfl) (by kernel_rfl) rfl (fun w hS => run_load rfl (by kernel_rfl) (load_set hS.1.1.1)),
            RS.StepOK.call 113 13 #[setT a] (.int .u64 (n : Int)) (by kernel_rfl) (by kernel_rfl) rfl (fun w => by kernel_rfl) (fun w hS => (many_ok OA.out w).mono (by rw [HN.out]; rintro e w' ⟨rfl, hb⟩; exact ⟨rfl, hS.met hb⟩)),
            RS.StepOK.pure 114 (by kernel_rfl) rfl (fun w => by kernel_rfl),
            RS.StepOK.load 115 (.bool false) (by kernel_rfl) (by kernel_rfl) rfl (fun w hS => run_bin rfl (by kernel_rfl) (by kernel_rfl) (by kernel_rfl) (neqw_f (x := (n : Int)) rfl w)),
            RS.StepOK.pure 116 (by kernel_rfl) rfl (fun w => by kernel_rfl), trivial⟩
        rintro w10 hs
        clear HS
        have HS := Aside0.mk hs
        clear hs
        (try simp only [RS.sets, List.setIfInBounds_toArray, List.set_cons_zero, List.set_cons_succ])
        go_wp2_with fail
        go_loopw [12] (fun u wr => ∃ k : Nat, (k + 1 ≤ n ∨ k = 0) ∧ u = .int .i64 ((k + 1 : Nat) : Int) ∧ InL w0 g0 g1 g2 g3 a b c j A n wr) (fun u _ => 202 - (RowKit.intOf u).toNat)
        case atStart => exact ⟨0, by omega, rfl, HS.out⟩
        case round =>
          obtain ⟨k, hk, rfl, hs⟩ := hrel
          clear HS
          have HS := Aside0.mk hs
          clear hs
          by_cases hin : k + 1 < n
          · obtain ⟨ad, rfl⟩ := HA.out (by omega)
            have h0 := HST.out (by omega)
            have hgt : a.2.1 + (k : Int) * a.1 < a.2.1 + ((k + 1 : Nat) : Int) * a.1 := by
              rw [show ((k + 1 : Nat) : Int) = (k : Int) + 1 by omega, Int.add_mul]; omega
            have HGT := Aside0.mk hgt
            clear hgt h0
            go_upto_region 18 with (fail)
            refine RS.wp_text [(117, .int .i64 ((k + 1 : Nat) : Int)), (118, .slice (some ad) n cp), (119, .int .i64 (n : Int)), (120, .bool true)] (InL w0 g0 g1 g2 g3 a b c j (some ad) n) (by kernel_rfl) (by kernel_rfl) HS.out ?_ ?_
            · exact ⟨RS.StepOK.pure 117 (by kernel_rfl) rfl (fun w => by kernel_rfl),
                RS.StepOK.pure 118 (by kernel_rfl) rfl (fun w => by kernel_rfl),
                RS.StepOK.pure 119 (by kernel_rfl) rfl (fun w => by kernel_rfl),
                RS.StepOK.load 120 (.bool true) (by kernel_rfl) (by kernel_rfl) rfl (fun w hS => run_bin rfl (by kernel_rfl) (by kernel_rfl) (by kernel_rfl) (lssi_t (show ((k + 1 : Nat) : Int) < (n : Int) by omega) w)), trivial⟩
            rintro w11 hs
            clear HS
            have HS := Aside0.mk hs
            clear hs
            (try simp only [RS.sets, List.setIfInBounds_toArray, List.set_cons_zero, List.set_cons_succ])
            go_upto_region 20 with (fail)
            refine RS.wp_drawn (by kernel_rfl) [(123, .slice (some ad) n cp), (124, .int .i64 ((k + 1 : Nat) : Int)), (125, .int .i64 (k : Int)), (126, .pointer (some (ad.add k))), (127, .int .u64 (a.2.1 + (k : Int) * a.1)), (128, .slice (some ad) n cp), (129, .int .i64 ((k + 1 : Nat) : Int)), (130, .pointer (some (ad.add (k + 1)))), (131, .int .u64 (a.2.1 + ((k + 1 : Nat) : Int) * a.1)), (132, .bool false)] (InL w0 g0 g1 g2 g3 a b c j (some ad) n) (by kernel_rfl) (by kernel_rfl) HS.out.drew ?_ ?_
            · exact ⟨RS.StepOK.pure 123 (by kernel_rfl) rfl (fun w => by kernel_rfl),
                RS.StepOK.pure 124 (by kernel_rfl) rfl (fun w => by kernel_rfl),
                RS.StepOK.load 125 (.int .i64 (k : Int)) (by kernel_rfl) (by kernel_rfl) rfl (fun w hS => run_bin rfl (by kernel_rfl) (by kernel_rfl) (by kernel_rfl) (sub_i k (by omega) w)),
                RS.StepOK.load 126 (.pointer (some (ad.add k))) (by kernel_rfl) (by kernel_rfl) rfl (fun w hS => run_indexAddr rfl (by kernel_rfl) (by kernel_rfl) (index_sl ad n cp k (by omega) w)),
                RS.StepOK.load 127 (.int .u64 (a.2.1 + (k : Int) * a.1)) (by kernel_rfl) (by kernel_rfl) rfl (fun w hS => run_load rfl (by kernel_rfl) (load_of (hS.2 ad rfl k (by omega)))),
                RS.StepOK.pure 128 (by kernel_rfl) rfl (fun w => by kernel_rfl),
                RS.StepOK.pure 129 (by kernel_rfl) rfl (fun w => by kernel_rfl),
                RS.StepOK.load 130 (.pointer (some (ad.add (k + 1)))) (by kernel_rfl) (by kernel_rfl) rfl (fun w hS => run_indexAddr rfl (by kernel_rfl) (by kernel_rfl) (index_sl ad n cp (k + 1) (by omega) w)),
                RS.StepOK.load 131 (.int .u64 (a.2.1 + ((k + 1 : Nat) : Int) * a.1)) (by kernel_rfl) (by kernel_rfl) rfl (fun w hS => run_load rfl (by kernel_rfl) (load_of (hS.2 ad rfl (k + 1) (by omega)))),
                RS.StepOK.load 132 (.bool false) (by kernel_rfl) (by kernel_rfl) rfl (fun w hS => run_bin rfl (by kernel_rfl) (by kernel_rfl) (by kernel_rfl) (geq_f HGT.out w)), trivial⟩
            rintro w12 hs
            clear HS
            have HS := Aside0.mk hs
            clear hs
            (try simp only [RS.sets, List.setIfInBounds_toArray, List.set_cons_zero, List.set_cons_succ])
            go_wp2_with fail
            go_roundw
            case rel => exact ⟨k + 1, by omega, by go_num, HS.out⟩
            case measure => simp [RowKit.intOf]; omega
          · go_upto_region 18 with (fail)
            refine RS.wp_text [(117, .int .i64 ((k + 1 : Nat) : Int)), (118, .slice A n cp), (119, .int .i64 (n : Int)), (120, .bool false)] (InL w0 g0 g1 g2 g3 a b c j A n) (by kernel_rfl) (by kernel_rfl) HS.out ?_ ?_
            · exact ⟨RS.StepOK.pure 117 (by kernel_rfl) rfl (fun w => by kernel_rfl),
                RS.StepOK.pure 118 (by kernel_rfl) rfl (fun w => by kernel_rfl),
                RS.StepOK.pure 119 (by kernel_rfl) rfl (fun w => by kernel_rfl),
                RS.StepOK.load 120 (.bool false) (by kernel_rfl) (by kernel_rfl) rfl (fun w hS => run_bin rfl (by kernel_rfl) (by kernel_rfl) (by kernel_rfl) (lssi_f (show (n : Int) ≤ ((k + 1 : Nat) : Int) by omega) w)), trivial⟩
            rintro w11 hs
            clear HS
            have HS := Aside0.mk hs
            clear hs
            (try simp only [RS.sets, List.setIfInBounds_toArray, List.set_cons_zero, List.set_cons_succ])
            go_upto_region 22 with (fail)
            obtain ⟨ba, hba⟩ : ∃ x, inT b a = x := ⟨_, rfl⟩
            have BA := Aside0.mk hba
            clear hba
            cases x
            · skip
              refine RS.wp_text [(133, setT a), (134, setT b), (135, .bool false), (136, .bool true), (137, .bool true), (138, undef), (139, undef), (140, undef), (141, undef), (142, .bool true), (143, .bool true), (144, undef), (145, undef), (146, undef), (147, .bool true), (148, .bool true), (149, .bool true), (150, .bool true), (6, .bool true)] (InL w0 g0 g1 g2 g3 a b c j A n) (by kernel_rfl) (by kernel_rfl) HS.out ?_ ?_
              · exact ⟨RS.StepOK.load 133 (setT a) (by kernel_rfl) (by kernel_rfl) rfl (fun w hS => run_load rfl (by kernel_rfl) (load_set hS.1.1.1)),
                  RS.StepOK.load 134 (setT b) (by kernel_rfl) (by kernel_rfl) rfl (fun w hS => run_load rfl (by kernel_rfl) (load_set hS.1.1.2.1)),
                  RS.StepOK.call 135 11 #[setT a, setT b] (.bool false) (by kernel_rfl) (by kernel_rfl) rfl (fun w => by kernel_rfl) (fun w hS => (in_calls (a := a) (b := b) OA.out OB.out w).mono (by rw [BI.out]; rintro e w' ⟨rfl, hb⟩; exact ⟨rfl, hS.met hb⟩)),
                  RS.StepOK.pure 136 (by kernel_rfl) rfl (fun w => by kernel_rfl),
                  RS.StepOK.pure 137 (by kernel_rfl) rfl (fun w => by kernel_rfl),
                  RS.StepOK.off 138 (by kernel_rfl) rfl (by kernel_rfl),
                  RS.StepOK.off 139 (by kernel_rfl) rfl (by kernel_rfl),
                  RS.StepOK.off 140 (by kernel_rfl) rfl (by kernel_rfl),
                  RS.StepOK.off 141 (by kernel_rfl) rfl (by kernel_rfl),
                  RS.StepOK.pure 142 (by kernel_rfl) rfl (fun w => by kernel_rfl),
                  RS.StepOK.pure 143 (by kernel_rfl) rfl (fun w => by kernel_rfl),
                  RS.StepOK.off 144 (by kernel_rfl) rfl (by kernel_rfl),
                  RS.StepOK.off 145 (by kernel_rfl) rfl (by kernel_rfl),
                  RS.StepOK.off 146 (by kernel_rfl) rfl (by kernel_rfl),
                  RS.StepOK.pure 147 (by kernel_rfl) rfl (fun w => by kernel_rfl),
                  RS.StepOK.pure 148 (by kernel_rfl) rfl (fun w => by kernel_rfl),
                  RS.StepOK.call 149 8 #[] (.bool true) (by kernel_rfl) (by kernel_rfl) rfl (fun w => by kernel_rfl) (fun w hS => (wakes_calls w hS.1.1.2.2.2.1).mono (by rintro e w' ⟨rfl, hb⟩; exact ⟨rfl, hS.met hb⟩)),
                  RS.StepOK.pure 150 (by kernel_rfl) rfl (fun w => by kernel_rfl),
                  RS.StepOK.pure 6 (by kernel_rfl) rfl (fun w => by kernel_rfl), trivial⟩
              rintro w12 hs
              clear HS
              have HS := Aside0.mk hs
              clear hs
              (try simp only [RS.sets, List.setIfInBounds_toArray, List.set_cons_zero, List.set_cons_succ])
              go_wp2_with fail
              go_ret
              exact ⟨rfl, HS.out.1.1.2.2.2.2⟩
            · cases ba
              · skip
                refine RS.wp_text [(133, setT a), (134, setT b), (135, .bool true), (136, .bool false), (137, .bool false), (138, setT b), (139, setT a), (140, .bool false), (141, .bool true), (142, .bool true), (143, .bool true), (144, undef), (145, undef), (146, undef), (147, .bool true), (148, .bool true), (149, .bool true), (150, .bool true), (6, .bool true)] (InL w0 g0 g1 g2 g3 a b c j A n) (by kernel_rfl) (by kernel_rfl) HS.out ?_ ?_
                · exact ⟨RS.StepOK.load 133 (setT a) (by kernel_rfl) (by kernel_rfl) rfl (fun w hS => run_load rfl (by kernel_rfl) (load_set hS.1.1.1)),
                    RS.StepOK.load 134 (setT b) (by kernel_rfl) (by kernel_rfl) rfl (fun w hS => run_load rfl (by kernel_rfl) (load_set hS.1.1.2.1)),
                    RS.StepOK.call 135 11 #[setT a, setT b] (.bool true) (by kernel_rfl) (by kernel_rfl) rfl (fun w => by kernel_rfl) (fun w hS => (in_calls (a := a) (b := b) OA.out OB.out w).mono (by rw [BI.out]; rintro e w' ⟨rfl, hb⟩; exact ⟨rfl, hS.met hb⟩)),
                    RS.StepOK.pure 136 (by kernel_rfl) rfl (fun w => by kernel_rfl),
                    RS.StepOK.pure 137 (by kernel_rfl) rfl (fun w => by kernel_rfl),
                    RS.StepOK.load 138 (setT b) (by kernel_rfl) (by kernel_rfl) rfl (fun w hS => run_load rfl (by kernel_rfl) (load_set hS.1.1.2.1)),
                    RS.StepOK.load 139 (setT a) (by kernel_rfl) (by kernel_rfl) rfl (fun w hS => run_load rfl (by kernel_rfl) (load_set hS.1.1.1)),
                    RS.StepOK.call 140 11 #[setT b, setT a] (.bool false) (by kernel_rfl) (by kernel_rfl) rfl (fun w => by kernel_rfl) (fun w hS => (in_calls (a := b) (b := a) OB.out OA.out w).mono (by rw [BA.out]; rintro e w' ⟨rfl, hb⟩; exact ⟨rfl, hS.met hb⟩)),
                    RS.StepOK.pure 141 (by kernel_rfl) rfl (fun w => by kernel_rfl),
                    RS.StepOK.pure 142 (by kernel_rfl) rfl (fun w => by kernel_rfl),
                    RS.StepOK.pure 143 (by kernel_rfl) rfl (fun w => by kernel_rfl),
                    RS.StepOK.off 144 (by kernel_rfl) rfl (by kernel_rfl),
                    RS.StepOK.off 145 (by kernel_rfl) rfl (by kernel_rfl),
                    RS.StepOK.off 146 (by kernel_rfl) rfl (by kernel_rfl),
                    RS.StepOK.pure 147 (by kernel_rfl) rfl (fun w => by kernel_rfl),
                    RS.StepOK.pure 148 (by kernel_rfl) rfl (fun w => by kernel_rfl),
                    RS.StepOK.call 149 8 #[] (.bool true) (by kernel_rfl) (by kernel_rfl) rfl (fun w => by kernel_rfl) (fun w hS => (wakes_calls w hS.1.1.2.2.2.1).mono (by rintro e w' ⟨rfl, hb⟩; exact ⟨rfl, hS.met hb⟩)),
                    RS.StepOK.pure 150 (by kernel_rfl) rfl (fun w => by kernel_rfl),
                    RS.StepOK.pure 6 (by kernel_rfl) rfl (fun w => by kernel_rfl), trivial⟩
                rintro w12 hs
                clear HS
                have HS := Aside0.mk hs
                clear hs
                (try simp only [RS.sets, List.setIfInBounds_toArray, List.set_cons_zero, List.set_cons_succ])
                go_wp2_with fail
                go_ret
                exact ⟨rfl, HS.out.1.1.2.2.2.2⟩
              · have HEQ := Aside0.mk (inT_anti OA.out OB.out BI.out BA.out)
                refine RS.wp_text [(133, setT a), (134, setT b), (135, .bool true), (136, .bool false), (137, .bool false), (138, setT b), (139, setT a), (140, .bool true), (141, .bool false), (142, .bool false), (143, .bool false), (144, setT a), (145, setT b), (146, .bool true), (147, .bool true), (148, .bool true), (149, .bool true), (150, .bool true), (6, .bool true)] (InL w0 g0 g1 g2 g3 a b c j A n) (by kernel_rfl) (by kernel_rfl) HS.out ?_ ?_
                · exact ⟨RS.StepOK.load 133 (setT a) (by kernel_rfl) (by kernel_rfl) rfl (fun w hS => run_load rfl (by kernel_rfl) (load_set hS.1.1.1)),
                    RS.StepOK.load 134 (setT b) (by kernel_rfl) (by kernel_rfl) rfl (fun w hS => run_load rfl (by kernel_rfl) (load_set hS.1.1.2.1)),
                    RS.StepOK.call 135 11 #[setT a, setT b] (.bool true) (by kernel_rfl) (by kernel_rfl) rfl (fun w => by kernel_rfl) (fun w hS => (in_calls (a := a) (b := b) OA.out OB.out w).mono (by rw [BI.out]; rintro e w' ⟨rfl, hb⟩; exact ⟨rfl, hS.met hb⟩)),
                    RS.StepOK.pure 136 (by kernel_rfl) rfl (fun w => by kernel_rfl),
                    RS.StepOK.pure 137 (by kernel_rfl) rfl (fun w => by kernel_rfl),
                    RS.StepOK.load 138 (setT b) (by kernel_rfl) (by kernel_rfl) rfl (fun w hS => run_load rfl (by kernel_rfl) (load_set hS.1.1.2.1)),
                    RS.StepOK.load 139 (setT a) (by kernel_rfl) (by kernel_rfl) rfl (fun w hS => run_load rfl (by kernel_rfl) (load_set hS.1.1.1)),
                    RS.StepOK.call 140 11 #[setT b, setT a] (.bool true) (by kernel_rfl) (by kernel_rfl) rfl (fun w => by kernel_rfl) (fun w hS => (in_calls (a := b) (b := a) OB.out OA.out w).mono (by rw [BA.out]; rintro e w' ⟨rfl, hb⟩; exact ⟨rfl, hS.met hb⟩)),
                    RS.StepOK.pure 141 (by kernel_rfl) rfl (fun w => by kernel_rfl),
                    RS.StepOK.pure 142 (by kernel_rfl) rfl (fun w => by kernel_rfl),
                    RS.StepOK.pure 143 (by kernel_rfl) rfl (fun w => by kernel_rfl),
                    RS.StepOK.load 144 (setT a) (by kernel_rfl) (by kernel_rfl) rfl (fun w hS => run_load rfl (by kernel_rfl) (load_set hS.1.1.1)),
                    RS.StepOK.load 145 (setT b) (by kernel_rfl) (by kernel_rfl) rfl (fun w hS => run_load rfl (by kernel_rfl) (load_set hS.1.1.2.1)),
                    RS.StepOK.load 146 (.bool true) (by kernel_rfl) (by kernel_rfl) rfl (fun w hS => run_bin rfl (by kernel_rfl) (by kernel_rfl) (by kernel_rfl) (eql_eq HEQ.out w)),
                    RS.StepOK.pure 147 (by kernel_rfl) rfl (fun w => by kernel_rfl),
                    RS.StepOK.pure 148 (by kernel_rfl) rfl (fun w => by kernel_rfl),
                    RS.StepOK.call 149 8 #[] (.bool true) (by kernel_rfl) (by kernel_rfl) rfl (fun w => by kernel_rfl) (fun w hS => (wakes_calls w hS.1.1.2.2.2.1).mono (by rintro e w' ⟨rfl, hb⟩; exact ⟨rfl, hS.met hb⟩)),
                    RS.StepOK.pure 150 (by kernel_rfl) rfl (fun w => by kernel_rfl),
                    RS.StepOK.pure 6 (by kernel_rfl) rfl (fun w => by kernel_rfl), trivial⟩
                rintro w12 hs
                clear HS
                have HS := Aside0.mk hs
                clear hs
                (try simp only [RS.sets, List.setIfInBounds_toArray, List.set_cons_zero, List.set_cons_succ])
                go_wp2_with fail
                go_ret
                exact ⟨rfl, HS.out.1.1.2.2.2.2⟩
      · cases bc
        · skip
          refine RS.wp_text [(90, setT a), (91, setT c), (92, .bool true), (93, .bool true), (94, setT b), (95, setT c), (96, .bool false), (97, .bool false), (98, .bool false), (99, undef), (100, undef), (101, undef), (102, undef), (103, .bool false)] (InS w0 g0 g1 g2 g3 a b c j) (by kernel_rfl) (by kernel_rfl) HS.out ?_ ?_
          · exact ⟨RS.StepOK.load 90 (setT a) (by kernel_rfl) (by kernel_rfl) rfl (fun w hS => run_load rfl (by kernel_rfl) (load_set hS.1.1)),
              RS.StepOK.load 91 (setT c) (by kernel_rfl) (by kernel_rfl) rfl (fun w hS => run_load rfl (by kernel_rfl) (load_set hS.1.2.2.1)),
              RS.StepOK.call 92 11 #[setT a, setT c] (.bool true) (by kernel_rfl) (by kernel_rfl) rfl (fun w => by kernel_rfl) (fun w hS => (in_calls (a := a) (b := c) OA.out OC.out w).mono (by rw [AC.out]; rintro e w' ⟨rfl, hb⟩; exact ⟨rfl, hS.met hb⟩)),
              RS.StepOK.pure 93 (by kernel_rfl) rfl (fun w => by kernel_rfl),
              RS.StepOK.load 94 (setT b) (by kernel_rfl) (by kernel_rfl) rfl (fun w hS => run_load rfl (by kernel_rfl) (load_set hS.1.2.1)),
              RS.StepOK.load 95 (setT c) (by kernel_rfl) (by kernel_rfl) rfl (fun w hS => run_load rfl (by kernel_rfl) (load_set hS.1.2.2.1)),
              RS.StepOK.call 96 11 #[setT b, setT c] (.bool false) (by kernel_rfl) (by kernel_rfl) rfl (fun w => by kernel_rfl) (fun w hS => (in_calls (a := b) (b := c) OB.out OC.out w).mono (by rw [BC.out]; rintro e w' ⟨rfl, hb⟩; exact ⟨rfl, hS.met hb⟩)),
              RS.StepOK.pure 97 (by kernel_rfl) rfl (fun w => by kernel_rfl),
              RS.StepOK.pure 98 (by kernel_rfl) rfl (fun w => by kernel_rfl),
              RS.StepOK.off 99 (by kernel_rfl) rfl (by kernel_rfl),
              RS.StepOK.off 100 (by kernel_rfl) rfl (by kernel_rfl),
              RS.StepOK.off 101 (by kernel_rfl) rfl (by kernel_rfl),
              RS.StepOK.off 102 (by kernel_rfl) rfl (by kernel_rfl),
              RS.StepOK.pure 103 (by kernel_rfl) rfl (fun w => by kernel_rfl), trivial⟩
          rintro w8 hs
          clear HS
          have HS := Aside0.mk hs
          clear hs
          (try simp only [RS.sets, List.setIfInBounds_toArray, List.set_cons_zero, List.set_cons_succ])
          obtain ⟨⟨qa0, qa1, qa2⟩, -⟩ := rows3 HS.out.1.1
          go_upto_region 15 with (go_at_call 12; refine (list_ok OA.out MA.out _).mono ?_; rintro e w9 ⟨v, rfl, hl, hb9⟩)
          clear qa0 qa1 qa2
          obtain ⟨A, cp, rfl⟩ : ∃ A c, v = .slice A n c := by
            obtain ⟨_, _, ho, _⟩ := hl
            have := own_slice ho
            rwa [HLN.out] at this
          have hs : InL w0 g0 g1 g2 g3 a b c j A n w9 := ⟨HS.out.met hb9, fun ad e i hi => by
            subst e
            have hr := (Kd.reads_of_C (enc := Value.int .u64) (d := (0 : Int)) (h1 := fun _ => rfl) (Kd.R_reads' hl).2.2).2.2
            rw [HLN.out] at hr
            obtain ⟨ad', e, hc⟩ := hr (by omega)
            injection e with e1; subst e1
            rw [hc i hi]
            have := valsT_get OA.out i (by rw [HLN.out]; exact hi)
            rw [List.getD_eq_getElem?_getD, this]
            rfl⟩
          have hA : 1 < n → ∃ ad, A = some ad := fun h => by
            have hr := (Kd.reads_of_C (enc := Value.int .u64) (d := (0 : Int)) (h1 := fun _ => rfl) (Kd.R_reads' hl).2.2).2.2
            rw [HLN.out] at hr
            obtain ⟨ad', e, -⟩ := hr (by omega)
            exact ⟨ad', e⟩
          have hst : 1 < n → 0 < a.1 := fun h => valsT_step OA.out MA.out (by rw [HLN.out]; exact h)
          have HA := Aside0.mk hA
          have HST := Aside0.mk hst
          clear HS hl hb9 hA hst
          have HS := Aside0.mk hs
          clear hs
          refine RS.wp_text [(106, .slice A n cp), (107, .int .i64 (n : Int)), (108, .int .u64 (IntKind.u64.wrap (n : Int))), (109, .int .u64 (n : Int)), (110, .bool false), (111, .bool false), (112, setT a), (113, .int .u64 (n : Int)), (114, .int .u64 (n : Int)), (115, .bool false), (116, .bool false)] (InL w0 g0 g1 g2 g3 a b c j A n) (by kernel_rfl) (by kernel_rfl) HS.out ?_ ?_
          · exact ⟨RS.StepOK.pure 106 (by kernel_rfl) rfl (fun w => by kernel_rfl),
              RS.StepOK.pure 107 (by kernel_rfl) rfl (fun w => by kernel_rfl),
              RS.StepOK.pure 108 (by kernel_rfl) rfl (fun w => by kernel_rfl),
              RS.StepOK.pure 109 (by kernel_rfl) rfl (fun w => by kernel_rfl),
              RS.StepOK.load 110 (.bool false) (by kernel_rfl) (by kernel_rfl) rfl (fun w hS => run_bin rfl (by kernel_rfl) (by kernel_rfl) (by kernel_rfl) (neqw_f (wrapU (x := (n : Int)) (by omega) (by omega)) w)),
              RS.StepOK.pure 111 (by kernel_rfl) rfl (fun w => by kernel_rfl),
              RS.StepOK.load 112 (setT a) (by kernel_rfl) (by kernel_rfl) rfl (fun w hS => run_load rfl (by kernel_rfl) (load_set hS.1.1.1)),
              RS.StepOK.call 113 13 #[setT a] (.int .u64 (n : Int)) (by kernel_rfl) (by kernel_rfl) rfl (fun w => by kernel_rfl) (fun w hS => (many_ok OA.out w).mono (by rw [HN.out]; rintro e w' ⟨rfl, hb⟩; exact ⟨rfl, hS.met hb⟩)),
              RS.StepOK.pure 114 (by kernel_rfl) rfl (fun w => by kernel_rfl),
              RS.StepOK.load 115 (.bool false) (by kernel_rfl) (by kernel_rfl) rfl (fun w hS => run_bin rfl (by kernel_rfl) (by kernel_rfl) (by kernel_rfl) (neqw_f (x := (n : Int)) rfl w)),
              RS.StepOK.pure 116 (by kernel_rfl) rfl (fun w => by kernel_rfl), trivial⟩
          rintro w10 hs
          clear HS
          have HS := Aside0.mk hs
          clear hs
          (try simp only [RS.sets, List.setIfInBounds_toArray, List.set_cons_zero, List.set_cons_succ])
          go_wp2_with fail
          go_loopw [12] (fun u wr => ∃ k : Nat, (k + 1 ≤ n ∨ k = 0) ∧ u = .int .i64 ((k + 1 : Nat) : Int) ∧ InL w0 g0 g1 g2 g3 a b c j A n wr) (fun u _ => 202 - (RowKit.intOf u).toNat)
          case atStart => exact ⟨0, by omega, rfl, HS.out⟩
          case round =>
            obtain ⟨k, hk, rfl, hs⟩ := hrel
            clear HS
            have HS := Aside0.mk hs
            clear hs
            by_cases hin : k + 1 < n
            · obtain ⟨ad, rfl⟩ := HA.out (by omega)
              have h0 := HST.out (by omega)
              have hgt : a.2.1 + (k : Int) * a.1 < a.2.1 + ((k + 1 : Nat) : Int) * a.1 := by
                rw [show ((k + 1 : Nat) : Int) = (k : Int) + 1 by omega, Int.add_mul]; omega
              have HGT := Aside0.mk hgt
              clear hgt h0
              go_upto_region 18 with (fail)
              refine RS.wp_text [(117, .int .i64 ((k + 1 : Nat) : Int)), (118, .slice (some ad) n cp), (119, .int .i64 (n : Int)), (120, .bool true)] (InL w0 g0 g1 g2 g3 a b c j (some ad) n) (by kernel_rfl) (by kernel_rfl) HS.out ?_ ?_
              · exact ⟨RS.StepOK.pure 117 (by kernel_rfl) rfl (fun w => by kernel_rfl),
                  RS.StepOK.pure 118 (by kernel_rfl) rfl (fun w => by kernel_rfl),
                  RS.StepOK.pure 119 (by kernel_rfl) rfl (fun w => by kernel_rfl),
                  RS.StepOK.load 120 (.bool true) (by kernel_rfl) (by kernel_rfl) rfl (fun w hS => run_bin rfl (by kernel_rfl) (by kernel_rfl) (by kernel_rfl) (lssi_t (show ((k + 1 : Nat) : Int) < (n : Int) by omega) w)), trivial⟩
              rintro w11 hs
              clear HS
              have HS := Aside0.mk hs
              clear hs
              (try simp only [RS.sets, List.setIfInBounds_toArray, List.set_cons_zero, List.set_cons_succ])
              go_upto_region 20 with (fail)
              refine RS.wp_drawn (by kernel_rfl) [(123, .slice (some ad) n cp), (124, .int .i64 ((k + 1 : Nat) : Int)), (125, .int .i64 (k : Int)), (126, .pointer (some (ad.add k))), (127, .int .u64 (a.2.1 + (k : Int) * a.1)), (128, .slice (some ad) n cp), (129, .int .i64 ((k + 1 : Nat) : Int)), (130, .pointer (some (ad.add (k + 1)))), (131, .int .u64 (a.2.1 + ((k + 1 : Nat) : Int) * a.1)), (132, .bool false)] (InL w0 g0 g1 g2 g3 a b c j (some ad) n) (by kernel_rfl) (by kernel_rfl) HS.out.drew ?_ ?_
              · exact ⟨RS.StepOK.pure 123 (by kernel_rfl) rfl (fun w => by kernel_rfl),
                  RS.StepOK.pure 124 (by kernel_rfl) rfl (fun w => by kernel_rfl),
                  RS.StepOK.load 125 (.int .i64 (k : Int)) (by kernel_rfl) (by kernel_rfl) rfl (fun w hS => run_bin rfl (by kernel_rfl) (by kernel_rfl) (by kernel_rfl) (sub_i k (by omega) w)),
                  RS.StepOK.load 126 (.pointer (some (ad.add k))) (by kernel_rfl) (by kernel_rfl) rfl (fun w hS => run_indexAddr rfl (by kernel_rfl) (by kernel_rfl) (index_sl ad n cp k (by omega) w)),
                  RS.StepOK.load 127 (.int .u64 (a.2.1 + (k : Int) * a.1)) (by kernel_rfl) (by kernel_rfl) rfl (fun w hS => run_load rfl (by kernel_rfl) (load_of (hS.2 ad rfl k (by omega)))),
                  RS.StepOK.pure 128 (by kernel_rfl) rfl (fun w => by kernel_rfl),
                  RS.StepOK.pure 129 (by kernel_rfl) rfl (fun w => by kernel_rfl),
                  RS.StepOK.load 130 (.pointer (some (ad.add (k + 1)))) (by kernel_rfl) (by kernel_rfl) rfl (fun w hS => run_indexAddr rfl (by kernel_rfl) (by kernel_rfl) (index_sl ad n cp (k + 1) (by omega) w)),
                  RS.StepOK.load 131 (.int .u64 (a.2.1 + ((k + 1 : Nat) : Int) * a.1)) (by kernel_rfl) (by kernel_rfl) rfl (fun w hS => run_load rfl (by kernel_rfl) (load_of (hS.2 ad rfl (k + 1) (by omega)))),
                  RS.StepOK.load 132 (.bool false) (by kernel_rfl) (by kernel_rfl) rfl (fun w hS => run_bin rfl (by kernel_rfl) (by kernel_rfl) (by kernel_rfl) (geq_f HGT.out w)), trivial⟩
              rintro w12 hs
              clear HS
              have HS := Aside0.mk hs
              clear hs
              (try simp only [RS.sets, List.setIfInBounds_toArray, List.set_cons_zero, List.set_cons_succ])
              go_wp2_with fail
              go_roundw
              case rel => exact ⟨k + 1, by omega, by go_num, HS.out⟩
              case measure => simp [RowKit.intOf]; omega
            · go_upto_region 18 with (fail)
              refine RS.wp_text [(117, .int .i64 ((k + 1 : Nat) : Int)), (118, .slice A n cp), (119, .int .i64 (n : Int)), (120, .bool false)] (InL w0 g0 g1 g2 g3 a b c j A n) (by kernel_rfl) (by kernel_rfl) HS.out ?_ ?_
              · exact ⟨RS.StepOK.pure 117 (by kernel_rfl) rfl (fun w => by kernel_rfl),
                  RS.StepOK.pure 118 (by kernel_rfl) rfl (fun w => by kernel_rfl),
                  RS.StepOK.pure 119 (by kernel_rfl) rfl (fun w => by kernel_rfl),
                  RS.StepOK.load 120 (.bool false) (by kernel_rfl) (by kernel_rfl) rfl (fun w hS => run_bin rfl (by kernel_rfl) (by kernel_rfl) (by kernel_rfl) (lssi_f (show (n : Int) ≤ ((k + 1 : Nat) : Int) by omega) w)), trivial⟩
              rintro w11 hs
              clear HS
              have HS := Aside0.mk hs
              clear hs
              (try simp only [RS.sets, List.setIfInBounds_toArray, List.set_cons_zero, List.set_cons_succ])
              go_upto_region 22 with (fail)
              obtain ⟨ba, hba⟩ : ∃ x, inT b a = x := ⟨_, rfl⟩
              have BA := Aside0.mk hba
              clear hba
              cases x
              · skip
                refine RS.wp_text [(133, setT a), (134, setT b), (135, .bool false), (136, .bool true), (137, .bool true), (138, undef), (139, undef), (140, undef), (141, undef), (142, .bool true), (143, .bool true), (144, undef), (145, undef), (146, undef), (147, .bool true), (148, .bool true), (149, .bool true), (150, .bool true), (6, .bool true)] (InL w0 g0 g1 g2 g3 a b c j A n) (by kernel_rfl) (by kernel_rfl) HS.out ?_ ?_
                · exact ⟨RS.StepOK.load 133 (setT a) (by kernel_rfl) (by kernel_rfl) rfl (fun w hS => run_load rfl (by kernel_rfl) (load_set hS.1.1.1)),
                    RS.StepOK.load 134 (setT b) (by kernel_rfl) (by kernel_rfl) rfl (fun w hS => run_load rfl (by kernel_rfl) (load_set hS.1.1.2.1)),
                    RS.StepOK.call 135 11 #[setT a, setT b] (.bool false) (by kernel_rfl) (by kernel_rfl) rfl (fun w => by kernel_rfl) (fun w hS => (in_calls (a := a) (b := b) OA.out OB.out w).mono (by rw [BI.out]; rintro e w' ⟨rfl, hb⟩; exact ⟨rfl, hS.met hb⟩)),
                    RS.StepOK.pure 136 (by kernel_rfl) rfl (fun w => by kernel_rfl),
                    RS.StepOK.pure 137 (by kernel_rfl) rfl (fun w => by kernel_rfl),
                    RS.StepOK.off 138 (by kernel_rfl) rfl (by kernel_rfl),
                    RS.StepOK.off 139 (by kernel_rfl) rfl (by kernel_rfl),
                    RS.StepOK.off 140 (by kernel_rfl) rfl (by kernel_rfl),
                    RS.StepOK.off 141 (by kernel_rfl) rfl (by kernel_rfl),
                    RS.StepOK.pure 142 (by kernel_rfl) rfl (fun w => by kernel_rfl),
                    RS.StepOK.pure 143 (by kernel_rfl) rfl (fun w => by kernel_rfl),
                    RS.StepOK.off 144 (by kernel_rfl) rfl (by kernel_rfl),
                    RS.StepOK.off 145 (by kernel_rfl) rfl (by kernel_rfl),
                    RS.StepOK.off 146 (by kernel_rfl) rfl (by kernel_rfl),
                    RS.StepOK.pure 147 (by kernel_rfl) rfl (fun w => by kernel_rfl),
                    RS.StepOK.pure 148 (by kernel_rfl) rfl (fun w => by kernel_rfl),
                    RS.StepOK.call 149 8 #[] (.bool true) (by kernel_rfl) (by kernel_rfl) rfl (fun w => by kernel_rfl) (fun w hS => (wakes_calls w hS.1.1.2.2.2.1).mono (by rintro e w' ⟨rfl, hb⟩; exact ⟨rfl, hS.met hb⟩)),
                    RS.StepOK.pure 150 (by kernel_rfl) rfl (fun w => by kernel_rfl),
                    RS.StepOK.pure 6 (by kernel_rfl) rfl (fun w => by kernel_rfl), trivial⟩
                rintro w12 hs
                clear HS
                have HS := Aside0.mk hs
                clear hs
                (try simp only [RS.sets, List.setIfInBounds_toArray, List.set_cons_zero, List.set_cons_succ])
                go_wp2_with fail
                go_ret
                exact ⟨rfl, HS.out.1.1.2.2.2.2⟩
              · cases ba
                · skip
                  refine RS.wp_text [(133, setT a), (134, setT b), (135, .bool true), (136, .bool false), (137, .bool false), (138, setT b), (139, setT a), (140, .bool false), (141, .bool true), (142, .bool true), (143, .bool true), (144, undef), (145, undef), (146, undef), (147, .bool true), (148, .bool true), (149, .bool true), (150, .bool true), (6, .bool true)] (InL w0 g0 g1 g2 g3 a b c j A n) (by kernel_rfl) (by kernel_rfl) HS.out ?_ ?_
                  · exact ⟨RS.StepOK.load 133 (setT a) (by kernel_rfl) (by kernel_rfl) rfl (fun w hS => run_load rfl (by kernel_rfl) (load_set hS.1.1.1)),
                      RS.StepOK.load 134 (setT b) (by kernel_rfl) (by kernel_rfl) rfl (fun w hS => run_load rfl (by kernel_rfl) (load_set hS.1.1.2.1)),
                      RS.StepOK.call 135 11 #[setT a, setT b] (.bool true) (by kernel_rfl) (by kernel_rfl) rfl (fun w => by kernel_rfl) (fun w hS => (in_calls (a := a) (b := b) OA.out OB.out w).mono (by rw [BI.out]; rintro e w' ⟨rfl, hb⟩; exact ⟨rfl, hS.met hb⟩)),
                      RS.StepOK.pure 136 (by kernel_rfl) rfl (fun w => by kernel_rfl),
                      RS.StepOK.pure 137 (by kernel_rfl) rfl (fun w => by kernel_rfl),
                      RS.StepOK.load 138 (setT b) (by kernel_rfl) (by kernel_rfl) rfl (fun w hS => run_load rfl (by kernel_rfl) (load_set hS.1.1.2.1)),
                      RS.StepOK.load 139 (setT a) (by kernel_rfl) (by kernel_rfl) rfl (fun w hS => run_load rfl (by kernel_rfl) (load_set hS.1.1.1)),
                      RS.StepOK.call 140 11 #[setT b, setT a] (.bool false) (by kernel_rfl) (by kernel_rfl) rfl (fun w => by kernel_rfl) (fun w hS => (in_calls (a := b) (b := a) OB.out OA.out w).mono (by rw [BA.out]; rintro e w' ⟨rfl, hb⟩; exact ⟨rfl, hS.met hb⟩)),
                      RS.StepOK.pure 141 (by kernel_rfl) rfl (fun w => by kernel_rfl),
                      RS.StepOK.pure 142 (by kernel_rfl) rfl (fun w => by kernel_rfl),
                      RS.StepOK.pure 143 (by kernel_rfl) rfl (fun w => by kernel_rfl),
                      RS.StepOK.off 144 (by kernel_rfl) rfl (by kernel_rfl),
                      RS.StepOK.off 145 (by kernel_rfl) rfl (by kernel_rfl),
                      RS.StepOK.off 146 (by kernel_rfl) rfl (by kernel_rfl),
                      RS.StepOK.pure 147 (by kernel_rfl) rfl (fun w => by kernel_rfl),
                      RS.StepOK.pure 148 (by kernel_rfl) rfl (fun w => by kernel_rfl),
                      RS.StepOK.call 149 8 #[] (.bool true) (by kernel_rfl) (by kernel_rfl) rfl (fun w => by kernel_rfl) (fun w hS => (wakes_calls w hS.1.1.2.2.2.1).mono (by rintro e w' ⟨rfl, hb⟩; exact ⟨rfl, hS.met hb⟩)),
                      RS.StepOK.pure 150 (by kernel_rfl) rfl (fun w => by kernel_rfl),
                      RS.StepOK.pure 6 (by kernel_rfl) rfl (fun w => by kernel_rfl), trivial⟩
                  rintro w12 hs
                  clear HS
                  have HS := Aside0.mk hs
                  clear hs
                  (try simp only [RS.sets, List.setIfInBounds_toArray, List.set_cons_zero, List.set_cons_succ])
                  go_wp2_with fail
                  go_ret
                  exact ⟨rfl, HS.out.1.1.2.2.2.2⟩
                · have HEQ := Aside0.mk (inT_anti OA.out OB.out BI.out BA.out)
                  refine RS.wp_text [(133, setT a), (134, setT b), (135, .bool true), (136, .bool false), (137, .bool false), (138, setT b), (139, setT a), (140, .bool true), (141, .bool false), (142, .bool false), (143, .bool false), (144, setT a), (145, setT b), (146, .bool true), (147, .bool true), (148, .bool true), (149, .bool true), (150, .bool true), (6, .bool true)] (InL w0 g0 g1 g2 g3 a b c j A n) (by kernel_rfl) (by kernel_rfl) HS.out ?_ ?_
                  · exact ⟨RS.StepOK.load 133 (setT a) (by kernel_rfl) (by kernel_rfl) rfl (fun w hS => run_load rfl (by kernel_rfl) (load_set hS.1.1.1)),
                      RS.StepOK.load 134 (setT b) (by kernel_rfl) (by kernel_rfl) rfl (fun w hS => run_load rfl (by kernel_rfl) (load_set hS.1.1.2.1)),
                      RS.StepOK.call 135 11 #[setT a, setT b] (.bool true) (by kernel_rfl) (by kernel_rfl) rfl (fun w => by kernel_rfl) (fun w hS => (in_calls (a := a) (b := b) OA.out OB.out w).mono (by rw [BI.out]; rintro e w' ⟨rfl, hb⟩; exact ⟨rfl, hS.met hb⟩)),
                      RS.StepOK.pure 136 (by kernel_rfl) rfl (fun w => by kernel_rfl),
                      RS.StepOK.pure 137 (by kernel_rfl) rfl (fun w => by kernel_rfl),
                      RS.StepOK.load 138 (setT b) (by kernel_rfl) (by kernel_rfl) rfl (fun w hS => run_load rfl (by kernel_rfl) (load_set hS.1.1.2.1)),
                      RS.StepOK.load 139 (setT a) (by kernel_rfl) (by kernel_rfl) rfl (fun w hS => run_load rfl (by kernel_rfl) (load_set hS.1.1.1)),
                      RS.StepOK.call 140 11 #[setT b, setT a] (.bool true) (by kernel_rfl) (by kernel_rfl) rfl (fun w => by kernel_rfl) (fun w hS => (in_calls (a := b) (b := a) OB.out OA.out w).mono (by rw [BA.out]; rintro e w' ⟨rfl, hb⟩; exact ⟨rfl, hS.met hb⟩)),
                      RS.StepOK.pure 141 (by kernel_rfl) rfl (fun w => by kernel_rfl),
                      RS.StepOK.pure 142 (by kernel_rfl) rfl (fun w => by kernel_rfl),
                      RS.StepOK.pure 143 (by kernel_rfl) rfl (fun w => by kernel_rfl),
                      RS.StepOK.load 144 (setT a) (by kernel_rfl) (by kernel_rfl) rfl (fun w hS => run_load rfl (by kernel_rfl) (load_set hS.1.1.1)),
                      RS.StepOK.load 145 (setT b) (by kernel_rfl) (by kernel_rfl) rfl (fun w hS => run_load rfl (by kernel_rfl) (load_set hS.1.1.2.1)),
                      RS.StepOK.load 146 (.bool true) (by kernel_rfl) (by kernel_rfl) rfl (fun w hS => run_bin rfl (by kernel_rfl) (by kernel_rfl) (by kernel_rfl) (eql_eq HEQ.out w)),
                      RS.StepOK.pure 147 (by kernel_rfl) rfl (fun w => by kernel_rfl),
                      RS.StepOK.pure 148 (by kernel_rfl) rfl (fun w => by kernel_rfl),
                      RS.StepOK.call 149 8 #[] (.bool true) (by kernel_rfl) (by kernel_rfl) rfl (fun w => by kernel_rfl) (fun w hS => (wakes_calls w hS.1.1.2.2.2.1).mono (by rintro e w' ⟨rfl, hb⟩; exact ⟨rfl, hS.met hb⟩)),
                      RS.StepOK.pure 150 (by kernel_rfl) rfl (fun w => by kernel_rfl),
                      RS.StepOK.pure 6 (by kernel_rfl) rfl (fun w => by kernel_rfl), trivial⟩
                  rintro w12 hs
                  clear HS
                  have HS := Aside0.mk hs
                  clear hs
                  (try simp only [RS.sets, List.setIfInBounds_toArray, List.set_cons_zero, List.set_cons_succ])
                  go_wp2_with fail
                  go_ret
                  exact ⟨rfl, HS.out.1.1.2.2.2.2⟩
        · skip
          refine RS.wp_text [(90, setT a), (91, setT c), (92, .bool true), (93, .bool true), (94, setT b), (95, setT c), (96, .bool true), (97, .bool true), (98, .bool true), (99, setT j), (100, setT c), (101, .bool true), (102, .bool false), (103, .bool false)] (InS w0 g0 g1 g2 g3 a b c j) (by kernel_rfl) (by kernel_rfl) HS.out ?_ ?_
          · exact ⟨RS.StepOK.load 90 (setT a) (by kernel_rfl) (by kernel_rfl) rfl (fun w hS => run_load rfl (by kernel_rfl) (load_set hS.1.1)),
              RS.StepOK.load 91 (setT c) (by kernel_rfl) (by kernel_rfl) rfl (fun w hS => run_load rfl (by kernel_rfl) (load_set hS.1.2.2.1)),
              RS.StepOK.call 92 11 #[setT a, setT c] (.bool true) (by kernel_rfl) (by kernel_rfl) rfl (fun w => by kernel_rfl) (fun w hS => (in_calls (a := a) (b := c) OA.out OC.out w).mono (by rw [AC.out]; rintro e w' ⟨rfl, hb⟩; exact ⟨rfl, hS.met hb⟩)),
              RS.StepOK.pure 93 (by kernel_rfl) rfl (fun w => by kernel_rfl),
              RS.StepOK.load 94 (setT b) (by kernel_rfl) (by kernel_rfl) rfl (fun w hS => run_load rfl (by kernel_rfl) (load_set hS.1.2.1)),
              RS.StepOK.load 95 (setT c) (by kernel_rfl) (by kernel_rfl) rfl (fun w hS => run_load rfl (by kernel_rfl) (load_set hS.1.2.2.1)),
              RS.StepOK.call 96 11 #[setT b, setT c] (.bool true) (by kernel_rfl) (by kernel_rfl) rfl (fun w => by kernel_rfl) (fun w hS => (in_calls (a := b) (b := c) OB.out OC.out w).mono (by rw [BC.out]; rintro e w' ⟨rfl, hb⟩; exact ⟨rfl, hS.met hb⟩)),
              RS.StepOK.pure 97 (by kernel_rfl) rfl (fun w => by kernel_rfl),
              RS.StepOK.pure 98 (by kernel_rfl) rfl (fun w => by kernel_rfl),
              RS.StepOK.load 99 (setT j) (by kernel_rfl) (by kernel_rfl) rfl (fun w hS => run_load rfl (by kernel_rfl) (load_set hS.2)),
              RS.StepOK.load 100 (setT c) (by kernel_rfl) (by kernel_rfl) rfl (fun w hS => run_load rfl (by kernel_rfl) (load_set hS.1.2.2.1)),
              RS.StepOK.call 101 11 #[setT j, setT c] (.bool true) (by kernel_rfl) (by kernel_rfl) rfl (fun w => by kernel_rfl) (fun w hS => (in_calls (a := j) (b := c) OJ.out OC.out w).mono (by rw [JL.out AC.out BC.out]; rintro e w' ⟨rfl, hb⟩; exact ⟨rfl, hS.met hb⟩)),
              RS.StepOK.pure 102 (by kernel_rfl) rfl (fun w => by kernel_rfl),
              RS.StepOK.pure 103 (by kernel_rfl) rfl (fun w => by kernel_rfl), trivial⟩
          rintro w8 hs
          clear HS
          have HS := Aside0.mk hs
          clear hs
          (try simp only [RS.sets, List.setIfInBounds_toArray, List.set_cons_zero, List.set_cons_succ])
          obtain ⟨⟨qa0, qa1, qa2⟩, -⟩ := rows3 HS.out.1.1
          go_upto_region 15 with (go_at_call 12; refine (list_ok OA.out MA.out _).mono ?_; rintro e w9 ⟨v, rfl, hl, hb9⟩)
          clear qa0 qa1 qa2
          obtain ⟨A, cp, rfl⟩ : ∃ A c, v = .slice A n c := by
            obtain ⟨_, _, ho, _⟩ := hl
            have := own_slice ho
            rwa [HLN.out] at this
          have hs : InL w0 g0 g1 g2 g3 a b c j A n w9 := ⟨HS.out.met hb9, fun ad e i hi => by
            subst e
            have hr := (Kd.reads_of_C (enc := Value.int .u64) (d := (0 : Int)) (h1 := fun _ => rfl) (Kd.R_reads' hl).2.2).2.2
            rw [HLN.out] at hr
            obtain ⟨ad', e, hc⟩ := hr (by omega)
            injection e with e1; subst e1
            rw [hc i hi]
            have := valsT_get OA.out i (by rw [HLN.out]; exact hi)
            rw [List.getD_eq_getElem?_getD, this]
            rfl⟩
          have hA : 1 < n → ∃ ad, A = some ad := fun h => by
            have hr := (Kd.reads_of_C (enc := Value.int .u64) (d := (0 : Int)) (h1 := fun _ => rfl) (Kd.R_reads' hl).2.2).2.2
            rw [HLN.out] at hr
            obtain ⟨ad', e, -⟩ := hr (by omega)
            exact ⟨ad', e⟩
          have hst : 1 < n → 0 < a.1 := fun h => valsT_step OA.out MA.out (by rw [HLN.out]; exact h)
          have HA := Aside0.mk hA
          have HST := Aside0.mk hst
          clear HS hl hb9 hA hst
          have HS := Aside0.mk hs
          clear hs
          refine RS.wp_text [(106, .slice A n cp), (107, .int .i64 (n : Int)), (108, .int .u64 (IntKind.u64.wrap (n : Int))), (109, .int .u64 (n : Int)), (110, .bool false), (111, .bool false), (112, setT a), (113, .int .u64 (n : Int)), (114, .int .u64 (n : Int)), (115, .bool false), (116, .bool false)] (InL w0 g0 g1 g2 g3 a b c j A n) (by kernel_rfl) (by kernel_rfl) HS.out ?_ ?_
          · exact ⟨RS.StepOK.pure 106 (by kernel_rfl) rfl (fun w => by kernel_rfl),
              RS.StepOK.pure 107 (by kernel_rfl) rfl (fun w => by kernel_rfl),
              RS.StepOK.pure 108 (by kernel_rfl) rfl (fun w => by kernel_rfl),
              RS.StepOK.pure 109 (by kernel_rfl) rfl (fun w => by kernel_rfl),
              RS.StepOK.load 110 (.bool false) (by kernel_rfl) (by kernel_rfl) rfl (fun w hS => run_bin rfl (by kernel_rfl) (by kernel_rfl) (by kernel_rfl) (neqw_f (wrapU (x := (n : Int)) (by omega) (by omega)) w)),
              RS.StepOK.pure 111 (by kernel_rfl) rfl (fun w => by kernel_rfl),
              RS.StepOK.load 112 (setT a) (by kernel_rfl) (by kernel_rfl) rfl (fun w hS => run_load rfl (by kernel_rfl) (load_set hS.1.1.1)),
              RS.StepOK.call 113 13 #[setT a] (.int .u64 (n : Int)) (by kernel_rfl) (by kernel_rfl) rfl (fun w => by kernel_rfl) (fun w hS => (many_ok OA.out w).mono (by rw [HN.out]; rintro e w' ⟨rfl, hb⟩; exact ⟨rfl, hS.met hb⟩)),
              RS.StepOK.pure 114 (by kernel_rfl) rfl (fun w => by kernel_rfl),
              RS.StepOK.load 115 (.bool false) (by kernel_rfl) (by kernel_rfl) rfl (fun w hS => run_bin rfl (by kernel_rfl) (by kernel_rfl) (by kernel_rfl) (neqw_f (x := (n : Int)) rfl w)),
              RS.StepOK.pure 116 (by kernel_rfl) rfl (fun w => by kernel_rfl), trivial⟩
          rintro w10 hs
          clear HS
          have HS := Aside0.mk hs
          clear hs
          (try simp only [RS.sets, List.setIfInBounds_toArray, List.set_cons_zero, List.set_cons_succ])
          go_wp2_with fail
          go_loopw [12] (fun u wr => ∃ k : Nat, (k + 1 ≤ n ∨ k = 0) ∧ u = .int .i64 ((k + 1 : Nat) : Int) ∧ InL w0 g0 g1 g2 g3 a b c j A n wr) (fun u _ => 202 - (RowKit.intOf u).toNat)
          case atStart => exact ⟨0, by omega, rfl, HS.out⟩
          case round =>
            obtain ⟨k, hk, rfl, hs⟩ := hrel
            clear HS
            have HS := Aside0.mk hs
            clear hs
            by_cases hin : k + 1 < n
            · obtain ⟨ad, rfl⟩ := HA.out (by omega)
              have h0 := HST.out (by omega)
              have hgt : a.2.1 + (k : Int) * a.1 < a.2.1 + ((k + 1 : Nat) : Int) * a.1 := by
                rw [show ((k + 1 : Nat) : Int) = (k : Int) + 1 by omega, Int.add_mul]; omega
              have HGT := Aside0.mk hgt
              clear hgt h0
              go_upto_region 18 with (fail)
              refine RS.wp_text [(117, .int .i64 ((k + 1 : Nat) : Int)), (118, .slice (some ad) n cp), (119, .int .i64 (n : Int)), (120, .bool true)] (InL w0 g0 g1 g2 g3 a b c j (some ad) n) (by kernel_rfl) (by kernel_rfl) HS.out ?_ ?_
              · exact ⟨RS.StepOK.pure 117 (by kernel_rfl) rfl (fun w => by kernel_rfl),
                  RS.StepOK.pure 118 (by kernel_rfl) rfl (fun w => by kernel_rfl),
                  RS.StepOK.pure 119 (by kernel_rfl) rfl (fun w => by kernel_rfl),
                  RS.StepOK.load 120 (.bool true) (by kernel_rfl) (by kernel_rfl) rfl (fun w hS => run_bin rfl (by kernel_rfl) (by kernel_rfl) (by kernel_rfl) (lssi_t (show ((k + 1 : Nat) : Int) < (n : Int) by omega) w)), trivial⟩
              rintro w11 hs
              clear HS
              have HS := Aside0.mk hs
              clear hs
              (try simp only [RS.sets, List.setIfInBounds_toArray, List.set_cons_zero, List.set_cons_succ])
              go_upto_region 20 with (fail)
              refine RS.wp_drawn (by kernel_rfl) [(123, .slice (some ad) n cp), (124, .int .i64 ((k + 1 : Nat) : Int)), (125, .int .i64 (k : Int)), (126, .pointer (some (ad.add k))), (127, .int .u64 (a.2.1 + (k : Int) * a.1)), (128, .slice (some ad) n cp), (129, .int .i64 ((k + 1 : Nat) : Int)), (130, .pointer (some (ad.add (k + 1)))), (131, .int .u64 (a.2.1 + ((k + 1 : Nat) : Int) * a.1)), (132, .bool false)] (InL w0 g0 g1 g2 g3 a b c j (some ad) n) (by kernel_rfl) (by kernel_rfl) HS.out.drew ?_ ?_
              · exact ⟨RS.StepOK.pure 123 (by kernel_rfl) rfl (fun w => by kernel_rfl),
                  RS.StepOK.pure 124 (by kernel_rfl) rfl (fun w => by kernel_rfl),
                  RS.StepOK.load 125 (.int .i64 (k : Int)) (by kernel_rfl) (by kernel_rfl) rfl (fun w hS => run_bin rfl (by kernel_rfl) (by kernel_rfl) (by kernel_rfl) (sub_i k (by omega) w)),
                  RS.StepOK.load 126 (.pointer (some (ad.add k))) (by kernel_rfl) (by kernel_rfl) rfl (fun w hS => run_indexAddr rfl (by kernel_rfl) (by kernel_rfl) (index_sl ad n cp k (by omega) w)),
                  RS.StepOK.load 127 (.int .u64 (a.2.1 + (k : Int) * a.1)) (by kernel_rfl) (by kernel_rfl) rfl (fun w hS => run_load rfl (by kernel_rfl) (load_of (hS.2 ad rfl k (by omega)))),
                  RS.StepOK.pure 128 (by kernel_rfl) rfl (fun w => by kernel_rfl),
                  RS.StepOK.pure 129 (by kernel_rfl) rfl (fun w => by kernel_rfl),
                  RS.StepOK.load 130 (.pointer (some (ad.add (k + 1)))) (by kernel_rfl) (by kernel_rfl) rfl (fun w hS => run_indexAddr rfl (by kernel_rfl) (by kernel_rfl) (index_sl ad n cp (k + 1) (by omega) w)),
                  RS.StepOK.load 131 (.int .u64 (a.2.1 + ((k + 1 : Nat) : Int) * a.1)) (by kernel_rfl) (by kernel_rfl) rfl (fun w hS => run_load rfl (by kernel_rfl) (load_of (hS.2 ad rfl (k + 1) (by omega)))),
                  RS.StepOK.load 132 (.bool false) (by kernel_rfl) (by kernel_rfl) rfl (fun w hS => run_bin rfl (by kernel_rfl) (by kernel_rfl) (by kernel_rfl) (geq_f HGT.out w)), trivial⟩
              rintro w12 hs
              clear HS
              have HS := Aside0.mk hs
              clear hs
              (try simp only [RS.sets, List.setIfInBounds_toArray, List.set_cons_zero, List.set_cons_succ])
              go_wp2_with fail
              go_roundw
              case rel => exact ⟨k + 1, by omega, by go_num, HS.out⟩
              case measure => simp [RowKit.intOf]; omega
            · go_upto_region 18 with (fail)
              refine RS.wp_text [(117, .int .i64 ((k + 1 : Nat) : Int)), (118, .slice A n cp), (119, .int .i64 (n : Int)), (120, .bool false)] (InL w0 g0 g1 g2 g3 a b c j A n) (by kernel_rfl) (by kernel_rfl) HS.out ?_ ?_
              · exact ⟨RS.StepOK.pure 117 (by kernel_rfl) rfl (fun w => by kernel_rfl),
                  RS.StepOK.pure 118 (by kernel_rfl) rfl (fun w => by kernel_rfl),
                  RS.StepOK.pure 119 (by kernel_rfl) rfl (fun w => by kernel_rfl),
                  RS.StepOK.load 120 (.bool false) (by kernel_rfl) (by kernel_rfl) rfl (fun w hS => run_bin rfl (by kernel_rfl) (by kernel_rfl) (by kernel_rfl) (lssi_f (show (n : Int) ≤ ((k + 1 : Nat) : Int) by omega) w)), trivial⟩
              rintro w11 hs
              clear HS
              have HS := Aside0.mk hs
              clear hs
              (try simp only [RS.sets, List.setIfInBounds_toArray, List.set_cons_zero, List.set_cons_succ])
              go_upto_region 22 with (fail)
              obtain ⟨ba, hba⟩ : ∃ x, inT b a = x := ⟨_, rfl⟩
              have BA := Aside0.mk hba
              clear hba
              cases x
              · skip
                refine RS.wp_text [(133, setT a), (134, setT b), (135, .bool false), (136, .bool true), (137, .bool true), (138, undef), (139, undef), (140, undef), (141, undef), (142, .bool true), (143, .bool true), (144, undef), (145, undef), (146, undef), (147, .bool true), (148, .bool true), (149, .bool true), (150, .bool true), (6, .bool true)] (InL w0 g0 g1 g2 g3 a b c j A n) (by kernel_rfl) (by kernel_rfl) HS.out ?_ ?_
                · exact ⟨RS.StepOK.load 133 (setT a) (by kernel_rfl) (by kernel_rfl) rfl (fun w hS => run_load rfl (by kernel_rfl) (load_set hS.1.1.1)),
                    RS.StepOK.load 134 (setT b) (by kernel_rfl) (by kernel_rfl) rfl (fun w hS => run_load rfl (by kernel_rfl) (load_set hS.1.1.2.1)),
                    RS.StepOK.call 135 11 #[setT a, setT b] (.bool false) (by kernel_rfl) (by kernel_rfl) rfl (fun w => by kernel_rfl) (fun w hS => (in_calls (a := a) (b := b) OA.out OB.out w).mono (by rw [BI.out]; rintro e w' ⟨rfl, hb⟩; exact ⟨rfl, hS.met hb⟩)),
                    RS.StepOK.pure 136 (by kernel_rfl) rfl (fun w => by kernel_rfl),
                    RS.StepOK.pure 137 (by kernel_rfl) rfl (fun w => by kernel_rfl),
                    RS.StepOK.off 138 (by kernel_rfl) rfl (by kernel_rfl),
                    RS.StepOK.off 139 (by kernel_rfl) rfl (by kernel_rfl),
                    RS.StepOK.off 140 (by kernel_rfl) rfl (by kernel_rfl),
                    RS.StepOK.off 141 (by kernel_rfl) rfl (by kernel_rfl),
                    RS.StepOK.pure 142 (by kernel_rfl) rfl (fun w => by kernel_rfl),
                    RS.StepOK.pure 143 (by kernel_rfl) rfl (fun w => by kernel_rfl),
                    RS.StepOK.off 144 (by kernel_rfl) rfl (by kernel_rfl),
                    RS.StepOK.off 145 (by kernel_rfl) rfl (by kernel_rfl),
                    RS.StepOK.off 146 (by kernel_rfl) rfl (by kernel_rfl),
                    RS.StepOK.pure 147 (by kernel_rfl) rfl (fun w => by kernel_rfl),
                    RS.StepOK.pure 148 (by kernel_rfl) rfl (fun w => by kernel_rfl),
                    RS.StepOK.call 149 8 #[] (.bool true) (by kernel_rfl) (by kernel_rfl) rfl (fun w => by kernel_rfl) (fun w hS => (wakes_calls w hS.1.1.2.2.2.1).mono (by rintro e w' ⟨rfl, hb⟩; exact ⟨rfl, hS.met hb⟩)),
                    RS.StepOK.pure 150 (by kernel_rfl) rfl (fun w => by kernel_rfl),
                    RS.StepOK.pure 6 (by kernel_rfl) rfl (fun w => by kernel_rfl), trivial⟩
                rintro w12 hs
                clear HS
                have HS := Aside0.mk hs
                clear hs
                (try simp only [RS.sets, List.setIfInBounds_toArray, List.set_cons_zero, List.set_cons_succ])
                go_wp2_with fail
                go_ret
                exact ⟨rfl, HS.out.1.1.2.2.2.2⟩
              · cases ba
                · skip
                  refine RS.wp_text [(133, setT a), (134, setT b), (135, .bool true), (136, .bool false), (137, .bool false), (138, setT b), (139, setT a), (140, .bool false), (141, .bool true), (142, .bool true), (143, .bool true), (144, undef), (145, undef), (146, undef), (147, .bool true), (148, .bool true), (149, .bool true), (150, .bool true), (6, .bool true)] (InL w0 g0 g1 g2 g3 a b c j A n) (by kernel_rfl) (by kernel_rfl) HS.out ?_ ?_
                  · exact ⟨RS.StepOK.load 133 (setT a) (by kernel_rfl) (by kernel_rfl) rfl (fun w hS => run_load rfl (by kernel_rfl) (load_set hS.1.1.1)),
                      RS.StepOK.load 134 (setT b) (by kernel_rfl) (by kernel_rfl) rfl (fun w hS => run_load rfl (by kernel_rfl) (load_set hS.1.1.2.1)),
                      RS.StepOK.call 135 11 #[setT a, setT b] (.bool true) (by kernel_rfl) (by kernel_rfl) rfl (fun w => by kernel_rfl) (fun w hS => (in_calls (a := a) (b := b) OA.out OB.out w).mono (by rw [BI.out]; rintro e w' ⟨rfl, hb⟩; exact ⟨rfl, hS.met hb⟩)),
                      RS.StepOK.pure 136 (by kernel_rfl) rfl (fun w => by kernel_rfl),
                      RS.StepOK.pure 137 (by kernel_rfl) rfl (fun w => by kernel_rfl),
                      RS.StepOK.load 138 (setT b) (by kernel_rfl) (by kernel_rfl) rfl (fun w hS => run_load rfl (by kernel_rfl) (load_set hS.1.1.2.1)),
                      RS.StepOK.load 139 (setT a) (by kernel_rfl) (by kernel_rfl) rfl (fun w hS => run_load rfl (by kernel_rfl) (load_set hS.1.1.1)),
                      RS.StepOK.call 140 11 #[setT b, setT a] (.bool false) (by kernel_rfl) (by kernel_rfl) rfl (fun w => by kernel_rfl) (fun w hS => (in_calls (a := b) (b := a) OB.out OA.out w).mono (by rw [BA.out]; rintro e w' ⟨rfl, hb⟩; exact ⟨rfl, hS.met hb⟩)),
                      RS.StepOK.pure 141 (by kernel_rfl) rfl (fun w => by kernel_rfl),
                      RS.StepOK.pure 142 (by kernel_rfl) rfl (fun w => by kernel_rfl),
                      RS.StepOK.pure 143 (by kernel_rfl) rfl (fun w => by kernel_rfl),
                      RS.StepOK.off 144 (by kernel_rfl) rfl (by kernel_rfl),
                      RS.StepOK.off 145 (by kernel_rfl) rfl (by kernel_rfl),
                      RS.StepOK.off 146 (by kernel_rfl) rfl (by kernel_rfl),
                      RS.StepOK.pure 147 (by kernel_rfl) rfl (fun w => by kernel_rfl),
                      RS.StepOK.pure 148 (by kernel_rfl) rfl (fun w => by kernel_rfl),
                      RS.StepOK.call 149 8 #[] (.bool true) (by kernel_rfl) (by kernel_rfl) rfl (fun w => by kernel_rfl) (fun w hS => (wakes_calls w hS.1.1.2.2.2.1).mono (by rintro e w' ⟨rfl, hb⟩; exact ⟨rfl, hS.met hb⟩)),
                      RS.StepOK.pure 150 (by kernel_rfl) rfl (fun w => by kernel_rfl),
                      RS.StepOK.pure 6 (by kernel_rfl) rfl (fun w => by kernel_rfl), trivial⟩
                  rintro w12 hs
                  clear HS
                  have HS := Aside0.mk hs
                  clear hs
                  (try simp only [RS.sets, List.setIfInBounds_toArray, List.set_cons_zero, List.set_cons_succ])
                  go_wp2_with fail
                  go_ret
                  exact ⟨rfl, HS.out.1.1.2.2.2.2⟩
                · have HEQ := Aside0.mk (inT_anti OA.out OB.out BI.out BA.out)
                  refine RS.wp_text [(133, setT a), (134, setT b), (135, .bool true), (136, .bool false), (137, .bool false), (138, setT b), (139, setT a), (140, .bool true), (141, .bool false), (142, .bool false), (143, .bool false), (144, setT a), (145, setT b), (146, .bool true), (147, .bool true), (148, .bool true), (149, .bool true), (150, .bool true), (6, .bool true)] (InL w0 g0 g1 g2 g3 a b c j A n) (by kernel_rfl) (by kernel_rfl) HS.out ?_ ?_
                  · exact ⟨RS.StepOK.load 133 (setT a) (by kernel_rfl) (by kernel_rfl) rfl (fun w hS => run_load rfl (by kernel_rfl) (load_set hS.1.1.1)),
                      RS.StepOK.load 134 (setT b) (by kernel_rfl) (by kernel_rfl) rfl (fun w hS => run_load rfl (by kernel_rfl) (load_set hS.1.1.2.1)),
                      RS.StepOK.call 135 11 #[setT a, setT b] (.bool true) (by kernel_rfl) (by kernel_rfl) rfl (fun w => by kernel_rfl) (fun w hS => (in_calls (a := a) (b := b) OA.out OB.out w).mono (by rw [BI.out]; rintro e w' ⟨rfl, hb⟩; exact ⟨rfl, hS.met hb⟩)),
                      RS.StepOK.pure 136 (by kernel_rfl) rfl (fun w => by kernel_rfl),
                      RS.StepOK.pure 137 (by kernel_rfl) rfl (fun w => by kernel_rfl),
                      RS.StepOK.load 138 (setT b) (by kernel_rfl) (by kernel_rfl) rfl (fun w hS => run_load rfl (by kernel_rfl) (load_set hS.1.1.2.1)),
                      RS.StepOK.load 139 (setT a) (by kernel_rfl) (by kernel_rfl) rfl (fun w hS => run_load rfl (by kernel_rfl) (load_set hS.1.1.1)),
                      RS.StepOK.call 140 11 #[setT b, setT a] (.bool true) (by kernel_rfl) (by kernel_rfl) rfl (fun w => by kernel_rfl) (fun w hS => (in_calls (a := b) (b := a) OB.out OA.out w).mono (by rw [BA.out]; rintro e w' ⟨rfl, hb⟩; exact ⟨rfl, hS.met hb⟩)),
                      RS.StepOK.pure 141 (by kernel_rfl) rfl (fun w => by kernel_rfl),
                      RS.StepOK.pure 142 (by kernel_rfl) rfl (fun w => by kernel_rfl),
                      RS.StepOK.pure 143 (by kernel_rfl) rfl (fun w => by kernel_rfl),
                      RS.StepOK.load 144 (setT a) (by kernel_rfl) (by kernel_rfl) rfl (fun w hS => run_load rfl (by kernel_rfl) (load_set hS.1.1.1)),
                      RS.StepOK.load 145 (setT b) (by kernel_rfl) (by kernel_rfl) rfl (fun w hS => run_load rfl (by kernel_rfl) (load_set hS.1.1.2.1)),
                      RS.StepOK.load 146 (.bool true) (by kernel_rfl) (by kernel_rfl) rfl (fun w hS => run_bin rfl (by kernel_rfl) (by kernel_rfl) (by kernel_rfl) (eql_eq HEQ.out w)),
                      RS.StepOK.pure 147 (by kernel_rfl) rfl (fun w => by kernel_rfl),
                      RS.StepOK.pure 148 (by kernel_rfl) rfl (fun w => by kernel_rfl),
                      RS.StepOK.call 149 8 #[] (.bool true) (by kernel_rfl) (by kernel_rfl) rfl (fun w => by kernel_rfl) (fun w hS => (wakes_calls w hS.1.1.2.2.2.1).mono (by rintro e w' ⟨rfl, hb⟩; exact ⟨rfl, hS.met hb⟩)),
                      RS.StepOK.pure 150 (by kernel_rfl) rfl (fun w => by kernel_rfl),
                      RS.StepOK.pure 6 (by kernel_rfl) rfl (fun w => by kernel_rfl), trivial⟩
                  rintro w12 hs
                  clear HS
                  have HS := Aside0.mk hs
                  clear hs
                  (try simp only [RS.sets, List.setIfInBounds_toArray, List.set_cons_zero, List.set_cons_succ])
                  go_wp2_with fail
                  go_ret
                  exact ⟨rfl, HS.out.1.1.2.2.2.2⟩
theorem in_law_calls (a b c : T3) (w0 : World) (hT : Tab w0) (ga : RgT a) (gb : RgT b) (gc : RgT c) : Calls Tryd.prog 3 #[setT a, setT b, setT c] w0 fun e w' => e = .returned (.bool true) ∧ Below w0.heap.size w0 w' := by
  obtain ⟨ra, ha, oa⟩ := right_ok ga
  obtain ⟨rb, hb, ob⟩ := right_ok gb
  obtain ⟨rc, hc, oc⟩ := right_ok gc
  cases ra
  · exact in_not0 a b c w0 hT ⟨ha⟩
  cases rb
  · exact in_not1 a b c w0 hT ⟨ha⟩ ⟨hb⟩
  cases rc
  · exact in_not2 a b c w0 hT ⟨ha⟩ ⟨hb⟩ ⟨hc⟩
  by_cases ma : 200 < manyT a
  · exact in_not3 a b c w0 hT ⟨ha⟩ ⟨hb⟩ ⟨hc⟩ ⟨oa rfl⟩ ⟨ob rfl⟩ ⟨oc rfl⟩ ⟨ma⟩
  by_cases mb : 200 < manyT b
  · exact in_not4 a b c w0 hT ⟨ha⟩ ⟨hb⟩ ⟨hc⟩ ⟨oa rfl⟩ ⟨ob rfl⟩ ⟨oc rfl⟩ ⟨by omega⟩ ⟨mb⟩
  exact in_true a b c w0 hT ⟨ha⟩ ⟨hb⟩ ⟨hc⟩ ⟨oa rfl⟩ ⟨ob rfl⟩ ⟨oc rfl⟩ ⟨by omega⟩ ⟨by omega⟩
end Go.Proofs.YtpphcfkldhemeaaDoor.B
