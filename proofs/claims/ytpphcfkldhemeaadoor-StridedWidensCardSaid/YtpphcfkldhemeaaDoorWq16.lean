/- StridedWidens tells true. -/
import Derived.Test.YtpphcfkldhemeaaDoorWq15
namespace Go.Proofs.YtpphcfkldhemeaaDoor.B
open Go.RowKit Go.Proofs.YtpphcfkldhemeaaDoorW.PrintWords Go.Proofs.YtpphcfkldhemeaaDoorW.PrintMore Go.RF
set_option linter.unusedVariables false
set_option linter.unusedSimpArgs false
theorem rmask_wide {x : Int} {n : Int} (h1 : sundialref01_wide.f x = some n) (h2 : sundialref01_wide.f n = some n) : ∀ (k : Nat) (y z : Int), sundialref01_Mask.l0 k x y z = sundialref01_Mask.l0 k n y z
  | 0, _, _ => rfl
  | k + 1, y, z => by
    unfold sundialref01_Mask.l0
    rw [h1, h2]
    simp only [Option.bind_some]
    rw [rmask_wide h1 h2 k]
theorem rmask_f (x : Int) : sundialref01_Mask.f 70 x = some (maskF x) := by
  have hw : sundialref01_wide.f x = some (wideN x : Int) := by
    unfold sundialref01_wide.f wideN mn mx
    congr 1
    split <;> split <;> (try split) <;> omega
  have hb := wideN_lt x
  unfold maskF
  unfold sundialref01_Mask.f
  generalize wideN x = n at *
  have : n = 1 ∨ n = 2 ∨ n = 3 ∨ n = 4 ∨ n = 5 ∨ n = 6 ∨ n = 7 ∨ n = 8 := by omega
  rcases this with rfl | rfl | rfl | rfl | rfl | rfl | rfl | rfl <;> exact (rmask_wide hw (by decide) 70 0 0).trans (by kernel_rfl)
theorem rmask_calls (x : Int) (w : World) : Calls Tryd.prog 18 #[.int .i64 x] w fun e w' => e = .returned (.int .u64 (maskF x)) ∧ Below w.heap.size w w' := sundialref01_Mask.calls 70 x _ w (rmask_f x)
theorem rin_calls {a b : T3} (ha : Ok a) (hb : Ok b) (w : World) : Calls Tryd.prog 20 #[setT a, setT b] w fun e w' => e = .returned (.bool (inT a b)) ∧ Below w.heap.size w w' := sundialref22_In.calls _ _ _ _ _ _ _ w (rin_f ha hb)
theorem rnone_calls (w : World) : Calls Tryd.prog 17 #[] w fun e w' => e = .returned (setT none3) ∧ Below w.heap.size w w' := sundialref22_None.calls 0 1 0 w rfl
theorem wid_calls {a b : T3} (ha : Ok a) (hb : Ok b) (width : Int) (fb : Fits b (maskF width)) (w : World) (hT : Tab w) : Calls Tryd.prog 19 #[setT a, setT b, .int .i64 width] w fun e w' => e = .returned (setT (widT a b (maskF width))) ∧ Below w.heap.size w w' := by
  obtain ⟨K, h⟩ := wid_f ha hb width fb
  exact strided_Widen.calls K _ _ _ _ _ _ _ _ _ _ w hT h
theorem neqT (a b : T3) (w : World) : (binOp .neq 24 (setT a) (setT b)).run Tryd.prog w = .ok (.bool (!decide (a = b))) w := by
  rw [neq_set]
  congr 2
  obtain ⟨a0, a1, a2⟩ := a
  obtain ⟨b0, b1, b2⟩ := b
  rw [Bool.eq_iff_iff]
  simp [Prod.ext_iff]
theorem neqT_t {a b : T3} (h : a ≠ b) (w : World) : (binOp .neq 24 (setT a) (setT b)).run Tryd.prog w = .ok (.bool true) w := by rw [neqT, decide_eq_false h]; rfl
theorem neqT_f {a b : T3} (h : a = b) (w : World) : (binOp .neq 24 (setT a) (setT b)).run Tryd.prog w = .ok (.bool false) w := by rw [neqT, decide_eq_true h]; rfl
theorem gtri_t {x y : Int} (h : y < x) (w : World) : (binOp .gtr 3 (.int .i64 x) (.int .i64 y)).run Tryd.prog w = .ok (.bool true) w := by simp [binOp, Op.intCmp]; omega
theorem gtri_f {x y : Int} (h : x ≤ y) (w : World) : (binOp .gtr 3 (.int .i64 x) (.int .i64 y)).run Tryd.prog w = .ok (.bool false) w := by simp [binOp, Op.intCmp]; omega
theorem leqi_t {x y : Int} (h : x ≤ y) (w : World) : (binOp .leq 3 (.int .i64 x) (.int .i64 y)).run Tryd.prog w = .ok (.bool true) w := by simp [binOp, Op.intCmp]; omega
theorem index_sets (ad : Addr) (n c i : Nat) (hi : i < n) (W : World) : (Instr.indexAt 37 (.slice (some ad) n c) (.int .i64 (i : Int))).run Tryd.prog W = .ok (.pointer (some (ad.add (i * 3)))) W := by
  have hu : Tryd.prog.underlying 37 = some (.slice 24) := by kernel_rfl
  have hc : Tryd.prog.cellsOf 24 = 3 := by kernel_rfl
  have h1 : (0 : Int) ≤ (i : Int) := by omega
  have h2 : (i : Int) < (n : Int) := by omega
  go_simp
def At3 (w : World) (p : Addr) (t : T3) : Prop := w.cell? p = some (.int .u64 t.1) ∧ w.cell? ⟨p.block, p.off + 1, none⟩ = some (.int .u64 t.2.1) ∧ w.cell? ⟨p.block, p.off + 2, none⟩ = some (.int .u64 t.2.2)
set_option maxRecDepth 100000 in
theorem load_at3 {w : World} {p : Addr} {t : T3} (h : At3 w p t) : (Instr.loadAt 24 (.pointer (some p))).run Tryd.prog w = .ok (setT t) w := by
  have hu24 := Tryd.underlying24
  obtain ⟨q0, q1, q2⟩ := h
  go_simp
theorem load_at3h {w : World} {p : Addr} {t : T3} (h : At3 w p t) : (Instr.loadAt 22 (.pointer (some ⟨p.block, p.off + 2, none⟩))).run Tryd.prog w = .ok (.int .u64 t.2.2) w := load_of h.2.2
theorem At3.below {w w' : World} {p : Addr} {t : T3} (h : At3 w p t) (hb : Below w.heap.size w w') : At3 w' p t := ⟨pw_cell_below hb h.1, pw_cell_below hb h.2.1, pw_cell_below hb h.2.2⟩
def WdS (w0 : World) (g : Nat) (s : T3) (w : World) : Prop := w.heap[g]? = some (.cells (setK s) 24 (0, 0)) ∧ Below w0.heap.size w0 w
theorem WdS.met {w0 : World} {g : Nat} {s : T3} {w w' : World} (h : WdS w0 g s w) (hb : Below w.heap.size w w') : WdS w0 g s w' := ⟨heap_below hb h.1, below_step h.2 hb⟩
theorem WdS.drew {w0 : World} {g : Nat} {s : T3} {w : World} (h : WdS w0 g s w) : WdS w0 g s { w with drawn := w.drawn + 1 } := ⟨h.1, bY_ h.2⟩
theorem WdS.lt {w0 : World} {g : Nat} {s : T3} {w : World} (h : WdS w0 g s w) : g < w.heap.size := (Array.getElem?_eq_some_iff.1 h.1).1
theorem WdS.set {w0 : World} {g k : Nat} {s : T3} {w : World} (h : WdS w0 g s w) (hg : w0.heap.size ≤ g) (hx : g < k) (u0 u1 u2 : Value) : WdS w0 g s (((w.setCell ⟨k, 0, none⟩ u0).setCell ⟨k, 1, none⟩ u1).setCell ⟨k, 2, none⟩ u2) :=
  ⟨heap_set3 h.1 (by omega) _ _ _, bS_ (bS_ (bS_ h.2 (by omega)) (by omega)) (by omega)⟩
def WdT (w0 : World) (g g8 : Nat) (s t : T3) (w : World) : Prop := WdS w0 g s w ∧ w.heap[g8]? = some (.cells (setK t) 24 (0, 0))
theorem WdT.met {w0 : World} {g g8 : Nat} {s t : T3} {w w' : World} (h : WdT w0 g g8 s t w) (hb : Below w.heap.size w w') : WdT w0 g g8 s t w' := ⟨h.1.met hb, heap_below hb h.2⟩
theorem WdT.drew {w0 : World} {g g8 : Nat} {s t : T3} {w : World} (h : WdT w0 g g8 s t w) : WdT w0 g g8 s t { w with drawn := w.drawn + 1 } := ⟨h.1.drew, h.2⟩
def WdN (w0 : World) (g : Nat) (s t : T3) (f : Nat → Bool) (ch : Nat) (w : World) : Prop := WdS w0 g s w ∧ NewB g (f 7) (f 8) t ch w
def Sets (w0 : World) (A : Option Addr) (l : List T3) : Prop := ∀ i x, l[i]? = some x → ∃ ad, A = some ad ∧ At3 w0 (ad.add (i * 3)) x ∧ RgT x
set_option maxHeartbeats 8000000 in
set_option maxRecDepth 100000 in
theorem widens_not (A : Option Addr) (c : Nat) (l : List T3) (width : Int) (w0 : World) (hT : Tab w0) (hR : Sets w0 A l) (hn : 300 < l.length) : Calls Tryd.prog 5 #[.slice A l.length c, .int .i64 width] w0 fun e w' => e = .returned (.bool true) ∧ Below w0.heap.size w0 w' := by
  have HT := Aside0.mk hT
  clear hT hR
  have hs : Below w0.heap.size w0 w0 := Below.refl _ _
  have HS := Aside0.mk hs
  clear hs
  go_enter Tryd.func5, Tryd.ntmps5
  go_upto_region 1 with (fail)
  refine RS.wp_text [(9, .slice A l.length c), (10, .int .i64 (l.length : Int)), (11, .bool true)] (fun w => Below w0.heap.size w0 w) (by kernel_rfl) (by kernel_rfl) HS.out ?_ ?_
  · exact ⟨RS.StepOK.pure 9 (by kernel_rfl) rfl (fun w => by kernel_rfl),
      RS.StepOK.pure 10 (by kernel_rfl) rfl (fun w => by kernel_rfl),
      RS.StepOK.load 11 (.bool true) (by kernel_rfl) (by kernel_rfl) rfl (fun w hS => run_bin rfl (by kernel_rfl) (by kernel_rfl) (by kernel_rfl) (gtri_t (show (300 : Int) < (l.length : Int) by omega) w)), trivial⟩
  rintro w1 hs
  clear HS
  have HS := Aside0.mk hs
  clear hs
  (try simp only [RS.sets, List.setIfInBounds_toArray, List.set_cons_zero, List.set_cons_succ])
  go_wp2_with (go_at_call 8; refine (wakes_calls _ (HT.out.below HS.out)).mono ?_; rintro e w3 ⟨rfl, hb⟩)
  go_ret
  exact ⟨rfl, below_step HS.out hb⟩
set_option maxHeartbeats 8000000 in
set_option maxRecDepth 100000 in
theorem widens_true (A : Option Addr) (c : Nat) (l : List T3) (width : Int) (w0 : World) (hT : Tab w0) (hR : Sets w0 A l) (hn : l.length ≤ 300) : Calls Tryd.prog 5 #[.slice A l.length c, .int .i64 width] w0 fun e w' => e = .returned (.bool true) ∧ Below w0.heap.size w0 w' := by
  have HM := Aside0.mk (maskP width)
  have HT := Aside0.mk hT
  have HR := Aside0.mk hR
  clear hT hR
  have hs : Below w0.heap.size w0 w0 := Below.refl _ _
  have HS := Aside0.mk hs
  clear hs
  go_enter Tryd.func5, Tryd.ntmps5
  go_upto_region 1 with (fail)
  refine RS.wp_text [(9, .slice A l.length c), (10, .int .i64 (l.length : Int)), (11, .bool false)] (fun w => Below w0.heap.size w0 w) (by kernel_rfl) (by kernel_rfl) HS.out ?_ ?_
  · exact ⟨RS.StepOK.pure 9 (by kernel_rfl) rfl (fun w => by kernel_rfl),
      RS.StepOK.pure 10 (by kernel_rfl) rfl (fun w => by kernel_rfl),
      RS.StepOK.load 11 (.bool false) (by kernel_rfl) (by kernel_rfl) rfl (fun w hS => run_bin rfl (by kernel_rfl) (by kernel_rfl) (by kernel_rfl) (gtri_f (show (l.length : Int) ≤ 300 by omega) w)), trivial⟩
  rintro w1 hs
  clear HS
  have HS := Aside0.mk hs
  clear hs
  (try simp only [RS.sets, List.setIfInBounds_toArray, List.set_cons_zero, List.set_cons_succ])
  go_upto_region 4 with (go_at_call 17; refine (rnone_calls _).mono ?_; rintro e w2 ⟨rfl, hb2⟩)
  have hb3 : Below w2.heap.size w2 (w2.alloc (.cells (setK none3) 24)) := bX_ (Below.refl _ _) _
  have hs : WdS w0 w2.heap.size none3 (w2.alloc (.cells (setK none3) 24)) := ⟨World.alloc_heap_new w2 _, below_step (below_step HS.out hb2) hb3⟩
  have hg : w0.heap.size ≤ w2.heap.size := (below_step HS.out hb2).size
  clear HS hb2 hb3
  generalize w2.heap.size = g at *
  have HG := Aside0.mk hg
  clear hg
  have HS := Aside0.mk hs
  clear hs
  go_wp2_with fail
  go_loopw [6, 7] (fun u v wr => ∃ (i m : Nat) (s : T3), i ≤ l.length ∧ v = .int .i64 (i : Int) ∧ u = .int .i64 (m : Int) ∧ m ≤ 193 ∧ Aside0 (Ok s ∧ Fits s (maskF width) ∧ m + Phi s (maskF width) ≤ 193) ∧ WdS w0 g s wr) (fun _ v _ => 300 - (RowKit.intOf v).toNat)
  case atStart => exact ⟨0, 0, none3, by omega, rfl, rfl, by omega, ⟨.inl rfl, .inl rfl, by simpa using Phi_le (.inl rfl)⟩, HS.out⟩
  case round =>
    obtain ⟨i, m, s, hi, rfl, rfl, hm, HP, hs⟩ := hrel
    clear HS
    have HS := Aside0.mk hs
    clear hs
    by_cases hin : i < l.length
    · obtain ⟨ad, hA, hx, hg⟩ := HR.out i l[i] (List.getElem?_eq_getElem hin)
      obtain ⟨x, hxe⟩ : ∃ x, l[i] = x := ⟨_, rfl⟩
      rw [hxe] at hx hg
      obtain ⟨rx, hrx, hox⟩ := right_ok hg
      subst hA
      have HX := Aside0.mk hx
      have RX := Aside0.mk hrx
      have OX := Aside0.mk hox
      clear hx hg hrx hox hxe
      go_upto_region 6 with (fail)
      refine RS.wp_text [(14, .int .i64 (i : Int)), (15, .slice (some ad) l.length c), (16, .int .i64 (l.length : Int)), (17, .bool true)] (WdS w0 g s) (by kernel_rfl) (by kernel_rfl) HS.out ?_ ?_
      · exact ⟨RS.StepOK.pure 14 (by kernel_rfl) rfl (fun w => by kernel_rfl),
          RS.StepOK.pure 15 (by kernel_rfl) rfl (fun w => by kernel_rfl),
          RS.StepOK.pure 16 (by kernel_rfl) rfl (fun w => by kernel_rfl),
          RS.StepOK.load 17 (.bool true) (by kernel_rfl) (by kernel_rfl) rfl (fun w hS => run_bin rfl (by kernel_rfl) (by kernel_rfl) (by kernel_rfl) (lssi_t (show (i : Int) < (l.length : Int) by omega) w)), trivial⟩
      rintro w4 hs
      clear HS
      have HS := Aside0.mk hs
      clear hs
      (try simp only [RS.sets, List.setIfInBounds_toArray, List.set_cons_zero, List.set_cons_succ])
      cases rx
      · go_upto_region 8 with (fail)
        refine RS.wp_drawn (by kernel_rfl) [(20, .slice (some ad) l.length c), (21, .int .i64 (i : Int)), (22, .pointer (some (ad.add (i * 3)))), (23, setT x), (24, .bool false), (25, .bool true), (26, .bool true), (27, undef), (28, undef), (29, undef), (30, undef), (31, undef), (32, undef), (33, undef), (34, undef), (35, undef), (36, undef), (37, undef), (38, undef), (39, undef), (40, undef), (41, undef), (42, undef), (43, .bool true)] (WdS w0 g s) (by kernel_rfl) (by kernel_rfl) HS.out.drew ?_ ?_
        · exact ⟨RS.StepOK.pure 20 (by kernel_rfl) rfl (fun w => by kernel_rfl),
            RS.StepOK.pure 21 (by kernel_rfl) rfl (fun w => by kernel_rfl),
            RS.StepOK.load 22 (.pointer (some (ad.add (i * 3)))) (by kernel_rfl) (by kernel_rfl) rfl (fun w hS => run_indexAddr rfl (by kernel_rfl) (by kernel_rfl) (index_sets ad l.length c i hin w)),
            RS.StepOK.load 23 (setT x) (by kernel_rfl) (by kernel_rfl) rfl (fun w hS => run_load rfl (by kernel_rfl) (load_at3 (HX.out.below (hS.2)))),
            RS.StepOK.call 24 6 #[setT x] (.bool false) (by kernel_rfl) (by kernel_rfl) rfl (fun w => by kernel_rfl) (fun w hS => (sundialref22_Right.calls _ _ _ false w RX.out).mono (by rintro e w' ⟨rfl, hb⟩; exact ⟨rfl, hS.met hb⟩)),
            RS.StepOK.pure 25 (by kernel_rfl) rfl (fun w => by kernel_rfl),
            RS.StepOK.pure 26 (by kernel_rfl) rfl (fun w => by kernel_rfl),
            RS.StepOK.off 27 (by kernel_rfl) rfl (by kernel_rfl),
            RS.StepOK.off 28 (by kernel_rfl) rfl (by kernel_rfl),
            RS.StepOK.off 29 (by kernel_rfl) rfl (by kernel_rfl),
            RS.StepOK.off 30 (by kernel_rfl) rfl (by kernel_rfl),
            RS.StepOK.off 31 (by kernel_rfl) rfl (by kernel_rfl),
            RS.StepOK.off 32 (by kernel_rfl) rfl (by kernel_rfl),
            RS.StepOK.off 33 (by kernel_rfl) rfl (by kernel_rfl),
            RS.StepOK.off 34 (by kernel_rfl) rfl (by kernel_rfl),
            RS.StepOK.off 35 (by kernel_rfl) rfl (by kernel_rfl),
            RS.StepOK.off 36 (by kernel_rfl) rfl (by kernel_rfl),
            RS.StepOK.off 37 (by kernel_rfl) rfl (by kernel_rfl),
            RS.StepOK.off 38 (by kernel_rfl) rfl (by kernel_rfl),
            RS.StepOK.off 39 (by kernel_rfl) rfl (by kernel_rfl),
            RS.StepOK.off 40 (by kernel_rfl) rfl (by kernel_rfl),
            RS.StepOK.off 41 (by kernel_rfl) rfl (by kernel_rfl),
            RS.StepOK.off 42 (by kernel_rfl) rfl (by kernel_rfl),
            RS.StepOK.pure 43 (by kernel_rfl) rfl (fun w => by kernel_rfl), trivial⟩
        rintro w5 hs
        clear HS
        have HS := Aside0.mk hs
        clear hs
        (try simp only [RS.sets, List.setIfInBounds_toArray, List.set_cons_zero, List.set_cons_succ])
        go_wp2_with fail
        go_roundw
        case rel => exact ⟨i + 1, m, s, by omega, by go_num, rfl, hm, HP, HS.out⟩
        case measure => simp [RowKit.intOf]; omega
      · have hox := OX.out rfl
        clear OX
        have OX := Aside0.mk hox
        clear hox
        go_upto_region 8 with (fail)
        by_cases hno : x = none3
        · have HNO := Aside0.mk hno
          have FX : Aside0 (Fits x (maskF width)) := ⟨by rw [HNO.out]; exact .inl rfl⟩
          clear hno
          refine RS.wp_drawn (by kernel_rfl) [(20, .slice (some ad) l.length c), (21, .int .i64 (i : Int)), (22, .pointer (some (ad.add (i * 3)))), (23, setT x), (24, .bool true), (25, .bool false), (26, .bool false), (27, .slice (some ad) l.length c), (28, .int .i64 (i : Int)), (29, .pointer (some (ad.add (i * 3)))), (30, setT x), (31, setT none3), (32, .bool false), (33, .bool false), (34, undef), (35, undef), (36, undef), (37, undef), (38, undef), (39, undef), (40, undef), (41, undef), (42, .bool false), (43, .bool false)] (WdS w0 g s) (by kernel_rfl) (by kernel_rfl) HS.out.drew ?_ ?_
          · exact ⟨RS.StepOK.pure 20 (by kernel_rfl) rfl (fun w => by kernel_rfl),
              RS.StepOK.pure 21 (by kernel_rfl) rfl (fun w => by kernel_rfl),
              RS.StepOK.load 22 (.pointer (some (ad.add (i * 3)))) (by kernel_rfl) (by kernel_rfl) rfl (fun w hS => run_indexAddr rfl (by kernel_rfl) (by kernel_rfl) (index_sets ad l.length c i hin w)),
              RS.StepOK.load 23 (setT x) (by kernel_rfl) (by kernel_rfl) rfl (fun w hS => run_load rfl (by kernel_rfl) (load_at3 (HX.out.below (hS.2)))),
              RS.StepOK.call 24 6 #[setT x] (.bool true) (by kernel_rfl) (by kernel_rfl) rfl (fun w => by kernel_rfl) (fun w hS => (sundialref22_Right.calls _ _ _ true w RX.out).mono (by rintro e w' ⟨rfl, hb⟩; exact ⟨rfl, hS.met hb⟩)),
              RS.StepOK.pure 25 (by kernel_rfl) rfl (fun w => by kernel_rfl),
              RS.StepOK.pure 26 (by kernel_rfl) rfl (fun w => by kernel_rfl),
              RS.StepOK.pure 27 (by kernel_rfl) rfl (fun w => by kernel_rfl),
              RS.StepOK.pure 28 (by kernel_rfl) rfl (fun w => by kernel_rfl),
              RS.StepOK.load 29 (.pointer (some (ad.add (i * 3)))) (by kernel_rfl) (by kernel_rfl) rfl (fun w hS => run_indexAddr rfl (by kernel_rfl) (by kernel_rfl) (index_sets ad l.length c i hin w)),
              RS.StepOK.load 30 (setT x) (by kernel_rfl) (by kernel_rfl) rfl (fun w hS => run_load rfl (by kernel_rfl) (load_at3 (HX.out.below (hS.2)))),
              RS.StepOK.call 31 17 #[] (setT none3) (by kernel_rfl) (by kernel_rfl) rfl (fun w => by kernel_rfl) (fun w hS => (rnone_calls w).mono (by rintro e w' ⟨rfl, hb⟩; exact ⟨rfl, hS.met hb⟩)),
              RS.StepOK.load 32 (.bool false) (by kernel_rfl) (by kernel_rfl) rfl (fun w hS => run_bin rfl (by kernel_rfl) (by kernel_rfl) (by kernel_rfl) (neqT_f HNO.out w)),
              RS.StepOK.pure 33 (by kernel_rfl) rfl (fun w => by kernel_rfl),
              RS.StepOK.off 34 (by kernel_rfl) rfl (by kernel_rfl),
              RS.StepOK.off 35 (by kernel_rfl) rfl (by kernel_rfl),
              RS.StepOK.off 36 (by kernel_rfl) rfl (by kernel_rfl),
              RS.StepOK.off 37 (by kernel_rfl) rfl (by kernel_rfl),
              RS.StepOK.off 38 (by kernel_rfl) rfl (by kernel_rfl),
              RS.StepOK.off 39 (by kernel_rfl) rfl (by kernel_rfl),
              RS.StepOK.off 40 (by kernel_rfl) rfl (by kernel_rfl),
              RS.StepOK.off 41 (by kernel_rfl) rfl (by kernel_rfl),
              RS.StepOK.pure 42 (by kernel_rfl) rfl (fun w => by kernel_rfl),
              RS.StepOK.pure 43 (by kernel_rfl) rfl (fun w => by kernel_rfl), trivial⟩
          rintro w5 hs
          clear HS
          have HS := Aside0.mk hs
          clear hs
          (try simp only [RS.sets, List.setIfInBounds_toArray, List.set_cons_zero, List.set_cons_succ])
          have OS := Aside0.mk HP.out.1
          have FS := Aside0.mk HP.out.2.1
          have HPH := Aside0.mk HP.out.2.2
          clear HP
          have hwp := wid_props OS.out OX.out FS.out FX.out HM.out
          have hag := wid_again' (m := maskF width) hwp.1 OX.out hwp.2.2.2.1
          obtain ⟨t, ht⟩ : ∃ t, widT s x (maskF width) = t := ⟨_, rfl⟩
          rw [ht] at hwp hag
          obtain ⟨hot, hft, hst, hxt, hphi⟩ := hwp
          have OT := Aside0.mk hot
          have FT := Aside0.mk hft
          have ST := Aside0.mk hst
          have XT := Aside0.mk hxt
          have PT := Aside0.mk hphi
          have AG := Aside0.mk hag
          have HWT := Aside0.mk ht
          clear hot hft hst hxt hphi hag ht
          go_upto_region 9 with (fail)
          refine RS.wp_choice (C := Nat) (by kernel_rfl) (fun ch => (8, .pointer (some ⟨ch, 0, none⟩)) :: [(44, setT s), (45, .slice (some ad) l.length c), (46, .int .i64 (i : Int)), (47, .pointer (some (ad.add (i * 3)))), (48, setT x), (49, .int .i64 width), (50, setT t)]) (WdN w0 g s t) (by kernel_rfl) (fun ch => by kernel_rfl) 0 (fun f hf => ?_) ?_ ?_
          · exact ⟨HS.out.drew, fun h => (by rw [hf 7 (by decide)] at h; cases h)⟩
          · exact ⟨RS.StepC.of (fun ch => RS.StepE.load 44 (setT s) (by kernel_rfl) (by kernel_rfl) rfl (fun f w h => h) (fun f w p1 p2 h => run_load rfl (by kernel_rfl) (load_set h.1.1))),
              RS.StepC.of (fun ch => RS.StepE.pure 45 (by kernel_rfl) rfl (fun w => by kernel_rfl) (fun f w h => h)),
              RS.StepC.of (fun ch => RS.StepE.pure 46 (by kernel_rfl) rfl (fun w => by kernel_rfl) (fun f w h => h)),
              RS.StepC.of (fun ch => RS.StepE.load 47 (.pointer (some (ad.add (i * 3)))) (by kernel_rfl) (by kernel_rfl) rfl (fun f w h => h) (fun f w p1 p2 h => run_indexAddr rfl (by kernel_rfl) (by kernel_rfl) (index_sets ad l.length c i hin w))),
              RS.StepC.of (fun ch => RS.StepE.load 48 (setT x) (by kernel_rfl) (by kernel_rfl) rfl (fun f w h => h) (fun f w p1 p2 h => run_load rfl (by kernel_rfl) (load_at3 (HX.out.below h.1.2)))),
              RS.StepC.of (fun ch => RS.StepE.pure 49 (by kernel_rfl) rfl (fun w => by kernel_rfl) (fun f w h => h)),
              RS.StepC.of (fun ch => RS.StepE.call 50 19 #[setT s, setT x, .int .i64 width] (setT t) (by kernel_rfl) (by kernel_rfl) rfl (fun w => by kernel_rfl) (fun g w h0 p1 p2 h => (wid_calls OS.out OX.out width FX.out w (HT.out.below h.1.2)).mono (by rw [HWT.out]; rintro e w' ⟨rfl, hb⟩; exact ⟨rfl, h.1.met hb, h.2.met hb⟩))),
              RS.StepC.choose (fun ch => by kernel_rfl) (fun k ch w h0 p1 p2 h => by
                have h0 : k 7 = false := h0
                have e8 : k 8 = false := p2 8 (by kernel_rfl) (by decide)
                have hlt := h.1.lt
                have hb : Below w.heap.size w (w.alloc (.cells (setC 0 0 0) 24)) := bX_ (Below.refl _ _) _
                have hn := World.alloc_heap_new w (.cells (setC 0 0 0) 24)
                refine ⟨_, _, w.heap.size, run_alloc24 rfl, fun d hd => by cases hd; kernel_rfl, RS.Agree.slot (n := 7) (k := 8) (md := .any) (by kernel_rfl) rfl rfl h0 (fun d hne => RS.sets_but _ _ 8 _ _ d hne), h.1.met hb, ?_⟩
                intro _
                show g < w.heap.size ∧ _ = some (Obj.cells (bif k 8 then _ else _) 24 (0, 0))
                rw [e8]
                exact ⟨hlt, hn⟩),
              RS.StepC.of (fun ch => RS.StepE.event undef (by intro d hd; cases hd) (by kernel_rfl) (fun k w h0 p1 p2 h => by
                have h0 : k 8 = false := h0
                have e7 : k 7 = true := p1 7 (by kernel_rfl)
                obtain ⟨hx, hm⟩ := h.2 e7
                rw [h0] at hm
                have hm : w.heap[ch]? = some (.cells (setC 0 0 0) 24 (0, 0)) := hm
                refine ⟨_, .inr ⟨run_store_set (g := ch) (s := t.1) (l := t.2.1) (h := t.2.2) rfl (by kernel_rfl) (by kernel_rfl) hm, rfl⟩, h.1.set HG.out hx _ _ _, ?_⟩
                intro _
                exact ⟨hx, (set3 hm _ _ _).1⟩)), trivial⟩
          rintro f g8 w6 hf hs
          obtain ⟨hs1, hs2⟩ := hs
          simp only [NewB, hf, cond_true, forall_const] at hs2
          clear HS
          have HS := Aside0.mk (show WdT w0 g g8 s t w6 from ⟨hs1, hs2.2⟩)
          have HG8 := Aside0.mk hs2.1
          clear hs1 hs2
          (try simp only [RS.sets, List.setIfInBounds_toArray, List.set_cons_zero, List.set_cons_succ])
          go_upto_region 10 with (fail)
          cases hnt : noB t
          · have HNT := Aside0.mk (show t ≠ none3 from fun e => by rw [e] at hnt; cases hnt)
            have HLE := Aside0.mk (FT.out.le hnt)
            clear hnt
            refine RS.wp_drawn (by kernel_rfl) [(51, setT s), (52, setT t), (53, .bool true), (54, .bool false), (55, .bool false), (56, .slice (some ad) l.length c), (57, .int .i64 (i : Int)), (58, .pointer (some (ad.add (i * 3)))), (59, setT x), (60, setT t), (61, .bool true), (62, .bool false), (63, .bool false), (64, .bool false), (65, setT t), (66, setT none3), (67, .bool true), (68, .bool true), (69, .pointer (some ⟨g8, 2, none⟩)), (70, .int .u64 t.2.2), (71, .int .i64 width), (72, .int .u64 (maskF width)), (73, .bool false), (74, .bool false), (75, .bool false)] (WdT w0 g g8 s t) (by kernel_rfl) (by kernel_rfl) HS.out.drew ?_ ?_
            · exact ⟨RS.StepOK.load 51 (setT s) (by kernel_rfl) (by kernel_rfl) rfl (fun w hS => run_load rfl (by kernel_rfl) (load_set hS.1.1)),
                RS.StepOK.load 52 (setT t) (by kernel_rfl) (by kernel_rfl) rfl (fun w hS => run_load rfl (by kernel_rfl) (load_set hS.2)),
                RS.StepOK.call 53 20 #[setT s, setT t] (.bool true) (by kernel_rfl) (by kernel_rfl) rfl (fun w => by kernel_rfl) (fun w hS => (rin_calls (a := s) (b := t) OS.out OT.out w).mono (by rw [ST.out]; rintro e w' ⟨rfl, hb⟩; exact ⟨rfl, hS.met hb⟩)),
                RS.StepOK.pure 54 (by kernel_rfl) rfl (fun w => by kernel_rfl),
                RS.StepOK.pure 55 (by kernel_rfl) rfl (fun w => by kernel_rfl),
                RS.StepOK.pure 56 (by kernel_rfl) rfl (fun w => by kernel_rfl),
                RS.StepOK.pure 57 (by kernel_rfl) rfl (fun w => by kernel_rfl),
                RS.StepOK.load 58 (.pointer (some (ad.add (i * 3)))) (by kernel_rfl) (by kernel_rfl) rfl (fun w hS => run_indexAddr rfl (by kernel_rfl) (by kernel_rfl) (index_sets ad l.length c i hin w)),
                RS.StepOK.load 59 (setT x) (by kernel_rfl) (by kernel_rfl) rfl (fun w hS => run_load rfl (by kernel_rfl) (load_at3 (HX.out.below (hS.1.2)))),
                RS.StepOK.load 60 (setT t) (by kernel_rfl) (by kernel_rfl) rfl (fun w hS => run_load rfl (by kernel_rfl) (load_set hS.2)),
                RS.StepOK.call 61 20 #[setT x, setT t] (.bool true) (by kernel_rfl) (by kernel_rfl) rfl (fun w => by kernel_rfl) (fun w hS => (rin_calls (a := x) (b := t) OX.out OT.out w).mono (by rw [XT.out]; rintro e w' ⟨rfl, hb⟩; exact ⟨rfl, hS.met hb⟩)),
                RS.StepOK.pure 62 (by kernel_rfl) rfl (fun w => by kernel_rfl),
                RS.StepOK.pure 63 (by kernel_rfl) rfl (fun w => by kernel_rfl),
                RS.StepOK.pure 64 (by kernel_rfl) rfl (fun w => by kernel_rfl),
                RS.StepOK.load 65 (setT t) (by kernel_rfl) (by kernel_rfl) rfl (fun w hS => run_load rfl (by kernel_rfl) (load_set hS.2)),
                RS.StepOK.call 66 17 #[] (setT none3) (by kernel_rfl) (by kernel_rfl) rfl (fun w => by kernel_rfl) (fun w hS => (rnone_calls w).mono (by rintro e w' ⟨rfl, hb⟩; exact ⟨rfl, hS.met hb⟩)),
                RS.StepOK.load 67 (.bool true) (by kernel_rfl) (by kernel_rfl) rfl (fun w hS => run_bin rfl (by kernel_rfl) (by kernel_rfl) (by kernel_rfl) (neqT_t HNT.out w)),
                RS.StepOK.pure 68 (by kernel_rfl) rfl (fun w => by kernel_rfl),
                RS.StepOK.pure 69 (by kernel_rfl) rfl (fun w => by kernel_rfl),
                RS.StepOK.load 70 (.int .u64 t.2.2) (by kernel_rfl) (by kernel_rfl) rfl (fun w hS => run_load rfl (by kernel_rfl) (load_num (i := 2) Tryd.underlying22 hS.2 rfl)),
                RS.StepOK.pure 71 (by kernel_rfl) rfl (fun w => by kernel_rfl),
                RS.StepOK.call 72 18 #[.int .i64 width] (.int .u64 (maskF width)) (by kernel_rfl) (by kernel_rfl) rfl (fun w => by kernel_rfl) (fun w hS => (rmask_calls width w).mono (by rintro e w' ⟨rfl, hb⟩; exact ⟨rfl, hS.met hb⟩)),
                RS.StepOK.load 73 (.bool false) (by kernel_rfl) (by kernel_rfl) rfl (fun w hS => run_bin rfl (by kernel_rfl) (by kernel_rfl) (by kernel_rfl) (gtr_f HLE.out w)),
                RS.StepOK.pure 74 (by kernel_rfl) rfl (fun w => by kernel_rfl),
                RS.StepOK.pure 75 (by kernel_rfl) rfl (fun w => by kernel_rfl), trivial⟩
            rintro w7 hs
            clear HS
            have HS := Aside0.mk hs
            clear hs
            (try simp only [RS.sets, List.setIfInBounds_toArray, List.set_cons_zero, List.set_cons_succ])
            go_upto_region 12 with (fail)
            by_cases hts : t = s
            · have HTS := Aside0.mk hts
              clear hts
              have hph : m + Phi t (maskF width) ≤ 193 := by rw [HTS.out]; exact HPH.out
              have HPN := Aside0.mk hph
              clear hph
              refine RS.wp_text [(76, setT t), (77, setT s), (78, .bool false)] (WdT w0 g g8 s t) (by kernel_rfl) (by kernel_rfl) HS.out ?_ ?_
              · exact ⟨RS.StepOK.load 76 (setT t) (by kernel_rfl) (by kernel_rfl) rfl (fun w hS => run_load rfl (by kernel_rfl) (load_set hS.2)),
                  RS.StepOK.load 77 (setT s) (by kernel_rfl) (by kernel_rfl) rfl (fun w hS => run_load rfl (by kernel_rfl) (load_set hS.1.1)),
                  RS.StepOK.load 78 (.bool false) (by kernel_rfl) (by kernel_rfl) rfl (fun w hS => run_bin rfl (by kernel_rfl) (by kernel_rfl) (by kernel_rfl) (neqT_f HTS.out w)), trivial⟩
              rintro w8 hs
              clear HS
              have HS := Aside0.mk hs
              clear hs
              (try simp only [RS.sets, List.setIfInBounds_toArray, List.set_cons_zero, List.set_cons_succ])
              go_upto_region 14 with (fail)
              refine RS.wp_drawn (by kernel_rfl) [(81, setT t), (82, .slice (some ad) l.length c), (83, .int .i64 (i : Int)), (84, .pointer (some (ad.add (i * 3)))), (85, setT x), (86, .int .i64 width), (87, setT t), (88, setT t), (89, .bool false)] (WdT w0 g g8 s t) (by kernel_rfl) (by kernel_rfl) HS.out.drew ?_ ?_
              · exact ⟨RS.StepOK.load 81 (setT t) (by kernel_rfl) (by kernel_rfl) rfl (fun w hS => run_load rfl (by kernel_rfl) (load_set hS.2)),
                  RS.StepOK.pure 82 (by kernel_rfl) rfl (fun w => by kernel_rfl),
                  RS.StepOK.pure 83 (by kernel_rfl) rfl (fun w => by kernel_rfl),
                  RS.StepOK.load 84 (.pointer (some (ad.add (i * 3)))) (by kernel_rfl) (by kernel_rfl) rfl (fun w hS => run_indexAddr rfl (by kernel_rfl) (by kernel_rfl) (index_sets ad l.length c i hin w)),
                  RS.StepOK.load 85 (setT x) (by kernel_rfl) (by kernel_rfl) rfl (fun w hS => run_load rfl (by kernel_rfl) (load_at3 (HX.out.below (hS.1.2)))),
                  RS.StepOK.pure 86 (by kernel_rfl) rfl (fun w => by kernel_rfl),
                  RS.StepOK.call 87 19 #[setT t, setT x, .int .i64 width] (setT t) (by kernel_rfl) (by kernel_rfl) rfl (fun w => by kernel_rfl) (fun w hS => (wid_calls OT.out OX.out width FX.out w (HT.out.below hS.1.2)).mono (by rw [AG.out]; rintro e w' ⟨rfl, hb⟩; exact ⟨rfl, hS.met hb⟩)),
                  RS.StepOK.load 88 (setT t) (by kernel_rfl) (by kernel_rfl) rfl (fun w hS => run_load rfl (by kernel_rfl) (load_set hS.2)),
                  RS.StepOK.load 89 (.bool false) (by kernel_rfl) (by kernel_rfl) rfl (fun w hS => run_bin rfl (by kernel_rfl) (by kernel_rfl) (by kernel_rfl) (neqT_f (a := t) rfl w)), trivial⟩
              rintro w9 hs
              clear HS
              have HS := Aside0.mk hs
              clear hs
              (try simp only [RS.sets, List.setIfInBounds_toArray, List.set_cons_zero, List.set_cons_succ])
              obtain ⟨⟨q0, q1, q2⟩, z0, z1, z2⟩ := rows3 HS.out.1.1
              obtain ⟨⟨p0, p1, p2⟩, -⟩ := rows3 HS.out.2
              go_wp2_with fail
              clear q0 q1 q2 z0 z1 z2 p0 p1 p2
              have hs : WdS w0 g t (((w9.setCell ⟨g, 0, none⟩ (.int .u64 t.1)).setCell ⟨g, 1, none⟩ (.int .u64 t.2.1)).setCell ⟨g, 2, none⟩ (.int .u64 t.2.2)) := ⟨(set3 HS.out.1.1 _ _ _).1, bS_ (bS_ (bS_ HS.out.1.2 HG.out) HG.out) HG.out⟩
              clear HS
              have HS := Aside0.mk hs
              clear hs
              go_roundw
              case rel => exact ⟨i + 1, m, t, by omega, by go_num, rfl, hm, ⟨OT.out, FT.out, HPN.out⟩, HS.out⟩
              case measure => simp [RowKit.intOf]; omega
            · have HTS := Aside0.mk hts
              clear hts
              have hph : (m + 1) + Phi t (maskF width) ≤ 193 := by have := PT.out HTS.out; have := HPH.out; omega
              have hm1 : m + 1 ≤ 193 := by omega
              have HPN := Aside0.mk hph
              clear hph
              refine RS.wp_text [(76, setT t), (77, setT s), (78, .bool true)] (WdT w0 g g8 s t) (by kernel_rfl) (by kernel_rfl) HS.out ?_ ?_
              · exact ⟨RS.StepOK.load 76 (setT t) (by kernel_rfl) (by kernel_rfl) rfl (fun w hS => run_load rfl (by kernel_rfl) (load_set hS.2)),
                  RS.StepOK.load 77 (setT s) (by kernel_rfl) (by kernel_rfl) rfl (fun w hS => run_load rfl (by kernel_rfl) (load_set hS.1.1)),
                  RS.StepOK.load 78 (.bool true) (by kernel_rfl) (by kernel_rfl) rfl (fun w hS => run_bin rfl (by kernel_rfl) (by kernel_rfl) (by kernel_rfl) (neqT_t HTS.out w)), trivial⟩
              rintro w8 hs
              clear HS
              have HS := Aside0.mk hs
              clear hs
              (try simp only [RS.sets, List.setIfInBounds_toArray, List.set_cons_zero, List.set_cons_succ])
              go_upto_region 14 with (fail)
              refine RS.wp_drawn (by kernel_rfl) [(81, setT t), (82, .slice (some ad) l.length c), (83, .int .i64 (i : Int)), (84, .pointer (some (ad.add (i * 3)))), (85, setT x), (86, .int .i64 width), (87, setT t), (88, setT t), (89, .bool false)] (WdT w0 g g8 s t) (by kernel_rfl) (by kernel_rfl) HS.out.drew ?_ ?_
              · exact ⟨RS.StepOK.load 81 (setT t) (by kernel_rfl) (by kernel_rfl) rfl (fun w hS => run_load rfl (by kernel_rfl) (load_set hS.2)),
                  RS.StepOK.pure 82 (by kernel_rfl) rfl (fun w => by kernel_rfl),
                  RS.StepOK.pure 83 (by kernel_rfl) rfl (fun w => by kernel_rfl),
                  RS.StepOK.load 84 (.pointer (some (ad.add (i * 3)))) (by kernel_rfl) (by kernel_rfl) rfl (fun w hS => run_indexAddr rfl (by kernel_rfl) (by kernel_rfl) (index_sets ad l.length c i hin w)),
                  RS.StepOK.load 85 (setT x) (by kernel_rfl) (by kernel_rfl) rfl (fun w hS => run_load rfl (by kernel_rfl) (load_at3 (HX.out.below (hS.1.2)))),
                  RS.StepOK.pure 86 (by kernel_rfl) rfl (fun w => by kernel_rfl),
                  RS.StepOK.call 87 19 #[setT t, setT x, .int .i64 width] (setT t) (by kernel_rfl) (by kernel_rfl) rfl (fun w => by kernel_rfl) (fun w hS => (wid_calls OT.out OX.out width FX.out w (HT.out.below hS.1.2)).mono (by rw [AG.out]; rintro e w' ⟨rfl, hb⟩; exact ⟨rfl, hS.met hb⟩)),
                  RS.StepOK.load 88 (setT t) (by kernel_rfl) (by kernel_rfl) rfl (fun w hS => run_load rfl (by kernel_rfl) (load_set hS.2)),
                  RS.StepOK.load 89 (.bool false) (by kernel_rfl) (by kernel_rfl) rfl (fun w hS => run_bin rfl (by kernel_rfl) (by kernel_rfl) (by kernel_rfl) (neqT_f (a := t) rfl w)), trivial⟩
              rintro w9 hs
              clear HS
              have HS := Aside0.mk hs
              clear hs
              (try simp only [RS.sets, List.setIfInBounds_toArray, List.set_cons_zero, List.set_cons_succ])
              obtain ⟨⟨q0, q1, q2⟩, z0, z1, z2⟩ := rows3 HS.out.1.1
              obtain ⟨⟨p0, p1, p2⟩, -⟩ := rows3 HS.out.2
              go_wp2_with fail
              clear q0 q1 q2 z0 z1 z2 p0 p1 p2
              have hs : WdS w0 g t (((w9.setCell ⟨g, 0, none⟩ (.int .u64 t.1)).setCell ⟨g, 1, none⟩ (.int .u64 t.2.1)).setCell ⟨g, 2, none⟩ (.int .u64 t.2.2)) := ⟨(set3 HS.out.1.1 _ _ _).1, bS_ (bS_ (bS_ HS.out.1.2 HG.out) HG.out) HG.out⟩
              clear HS
              have HS := Aside0.mk hs
              clear hs
              go_roundw
              case rel => exact ⟨i + 1, m + 1, t, by omega, by go_num, by go_num, hm1, ⟨OT.out, FT.out, HPN.out⟩, HS.out⟩
              case measure => simp [RowKit.intOf]; omega
          · have HNT := Aside0.mk (noB_iff.1 hnt)
            clear hnt
            refine RS.wp_drawn (by kernel_rfl) [(51, setT s), (52, setT t), (53, .bool true), (54, .bool false), (55, .bool false), (56, .slice (some ad) l.length c), (57, .int .i64 (i : Int)), (58, .pointer (some (ad.add (i * 3)))), (59, setT x), (60, setT t), (61, .bool true), (62, .bool false), (63, .bool false), (64, .bool false), (65, setT t), (66, setT none3), (67, .bool false), (68, .bool false), (69, undef), (70, undef), (71, undef), (72, undef), (73, undef), (74, .bool false), (75, .bool false)] (WdT w0 g g8 s t) (by kernel_rfl) (by kernel_rfl) HS.out.drew ?_ ?_
            · exact ⟨RS.StepOK.load 51 (setT s) (by kernel_rfl) (by kernel_rfl) rfl (fun w hS => run_load rfl (by kernel_rfl) (load_set hS.1.1)),
                RS.StepOK.load 52 (setT t) (by kernel_rfl) (by kernel_rfl) rfl (fun w hS => run_load rfl (by kernel_rfl) (load_set hS.2)),
                RS.StepOK.call 53 20 #[setT s, setT t] (.bool true) (by kernel_rfl) (by kernel_rfl) rfl (fun w => by kernel_rfl) (fun w hS => (rin_calls (a := s) (b := t) OS.out OT.out w).mono (by rw [ST.out]; rintro e w' ⟨rfl, hb⟩; exact ⟨rfl, hS.met hb⟩)),
                RS.StepOK.pure 54 (by kernel_rfl) rfl (fun w => by kernel_rfl),
                RS.StepOK.pure 55 (by kernel_rfl) rfl (fun w => by kernel_rfl),
                RS.StepOK.pure 56 (by kernel_rfl) rfl (fun w => by kernel_rfl),
                RS.StepOK.pure 57 (by kernel_rfl) rfl (fun w => by kernel_rfl),
                RS.StepOK.load 58 (.pointer (some (ad.add (i * 3)))) (by kernel_rfl) (by kernel_rfl) rfl (fun w hS => run_indexAddr rfl (by kernel_rfl) (by kernel_rfl) (index_sets ad l.length c i hin w)),
                RS.StepOK.load 59 (setT x) (by kernel_rfl) (by kernel_rfl) rfl (fun w hS => run_load rfl (by kernel_rfl) (load_at3 (HX.out.below (hS.1.2)))),
                RS.StepOK.load 60 (setT t) (by kernel_rfl) (by kernel_rfl) rfl (fun w hS => run_load rfl (by kernel_rfl) (load_set hS.2)),
                RS.StepOK.call 61 20 #[setT x, setT t] (.bool true) (by kernel_rfl) (by kernel_rfl) rfl (fun w => by kernel_rfl) (fun w hS => (rin_calls (a := x) (b := t) OX.out OT.out w).mono (by rw [XT.out]; rintro e w' ⟨rfl, hb⟩; exact ⟨rfl, hS.met hb⟩)),
                RS.StepOK.pure 62 (by kernel_rfl) rfl (fun w => by kernel_rfl),
                RS.StepOK.pure 63 (by kernel_rfl) rfl (fun w => by kernel_rfl),
                RS.StepOK.pure 64 (by kernel_rfl) rfl (fun w => by kernel_rfl),
                RS.StepOK.load 65 (setT t) (by kernel_rfl) (by kernel_rfl) rfl (fun w hS => run_load rfl (by kernel_rfl) (load_set hS.2)),
                RS.StepOK.call 66 17 #[] (setT none3) (by kernel_rfl) (by kernel_rfl) rfl (fun w => by kernel_rfl) (fun w hS => (rnone_calls w).mono (by rintro e w' ⟨rfl, hb⟩; exact ⟨rfl, hS.met hb⟩)),
                RS.StepOK.load 67 (.bool false) (by kernel_rfl) (by kernel_rfl) rfl (fun w hS => run_bin rfl (by kernel_rfl) (by kernel_rfl) (by kernel_rfl) (neqT_f HNT.out w)),
                RS.StepOK.pure 68 (by kernel_rfl) rfl (fun w => by kernel_rfl),
                RS.StepOK.off 69 (by kernel_rfl) rfl (by kernel_rfl),
                RS.StepOK.off 70 (by kernel_rfl) rfl (by kernel_rfl),
                RS.StepOK.off 71 (by kernel_rfl) rfl (by kernel_rfl),
                RS.StepOK.off 72 (by kernel_rfl) rfl (by kernel_rfl),
                RS.StepOK.off 73 (by kernel_rfl) rfl (by kernel_rfl),
                RS.StepOK.pure 74 (by kernel_rfl) rfl (fun w => by kernel_rfl),
                RS.StepOK.pure 75 (by kernel_rfl) rfl (fun w => by kernel_rfl), trivial⟩
            rintro w7 hs
            clear HS
            have HS := Aside0.mk hs
            clear hs
            (try simp only [RS.sets, List.setIfInBounds_toArray, List.set_cons_zero, List.set_cons_succ])
            go_upto_region 12 with (fail)
            by_cases hts : t = s
            · have HTS := Aside0.mk hts
              clear hts
              have hph : m + Phi t (maskF width) ≤ 193 := by rw [HTS.out]; exact HPH.out
              have HPN := Aside0.mk hph
              clear hph
              refine RS.wp_text [(76, setT t), (77, setT s), (78, .bool false)] (WdT w0 g g8 s t) (by kernel_rfl) (by kernel_rfl) HS.out ?_ ?_
              · exact ⟨RS.StepOK.load 76 (setT t) (by kernel_rfl) (by kernel_rfl) rfl (fun w hS => run_load rfl (by kernel_rfl) (load_set hS.2)),
                  RS.StepOK.load 77 (setT s) (by kernel_rfl) (by kernel_rfl) rfl (fun w hS => run_load rfl (by kernel_rfl) (load_set hS.1.1)),
                  RS.StepOK.load 78 (.bool false) (by kernel_rfl) (by kernel_rfl) rfl (fun w hS => run_bin rfl (by kernel_rfl) (by kernel_rfl) (by kernel_rfl) (neqT_f HTS.out w)), trivial⟩
              rintro w8 hs
              clear HS
              have HS := Aside0.mk hs
              clear hs
              (try simp only [RS.sets, List.setIfInBounds_toArray, List.set_cons_zero, List.set_cons_succ])
              go_upto_region 14 with (fail)
              refine RS.wp_drawn (by kernel_rfl) [(81, setT t), (82, .slice (some ad) l.length c), (83, .int .i64 (i : Int)), (84, .pointer (some (ad.add (i * 3)))), (85, setT x), (86, .int .i64 width), (87, setT t), (88, setT t), (89, .bool false)] (WdT w0 g g8 s t) (by kernel_rfl) (by kernel_rfl) HS.out.drew ?_ ?_
              · exact ⟨RS.StepOK.load 81 (setT t) (by kernel_rfl) (by kernel_rfl) rfl (fun w hS => run_load rfl (by kernel_rfl) (load_set hS.2)),
                  RS.StepOK.pure 82 (by kernel_rfl) rfl (fun w => by kernel_rfl),
                  RS.StepOK.pure 83 (by kernel_rfl) rfl (fun w => by kernel_rfl),
                  RS.StepOK.load 84 (.pointer (some (ad.add (i * 3)))) (by kernel_rfl) (by kernel_rfl) rfl (fun w hS => run_indexAddr rfl (by kernel_rfl) (by kernel_rfl) (index_sets ad l.length c i hin w)),
                  RS.StepOK.load 85 (setT x) (by kernel_rfl) (by kernel_rfl) rfl (fun w hS => run_load rfl (by kernel_rfl) (load_at3 (HX.out.below (hS.1.2)))),
                  RS.StepOK.pure 86 (by kernel_rfl) rfl (fun w => by kernel_rfl),
                  RS.StepOK.call 87 19 #[setT t, setT x, .int .i64 width] (setT t) (by kernel_rfl) (by kernel_rfl) rfl (fun w => by kernel_rfl) (fun w hS => (wid_calls OT.out OX.out width FX.out w (HT.out.below hS.1.2)).mono (by rw [AG.out]; rintro e w' ⟨rfl, hb⟩; exact ⟨rfl, hS.met hb⟩)),
                  RS.StepOK.load 88 (setT t) (by kernel_rfl) (by kernel_rfl) rfl (fun w hS => run_load rfl (by kernel_rfl) (load_set hS.2)),
                  RS.StepOK.load 89 (.bool false) (by kernel_rfl) (by kernel_rfl) rfl (fun w hS => run_bin rfl (by kernel_rfl) (by kernel_rfl) (by kernel_rfl) (neqT_f (a := t) rfl w)), trivial⟩
              rintro w9 hs
              clear HS
              have HS := Aside0.mk hs
              clear hs
              (try simp only [RS.sets, List.setIfInBounds_toArray, List.set_cons_zero, List.set_cons_succ])
              obtain ⟨⟨q0, q1, q2⟩, z0, z1, z2⟩ := rows3 HS.out.1.1
              obtain ⟨⟨p0, p1, p2⟩, -⟩ := rows3 HS.out.2
              go_wp2_with fail
              clear q0 q1 q2 z0 z1 z2 p0 p1 p2
              have hs : WdS w0 g t (((w9.setCell ⟨g, 0, none⟩ (.int .u64 t.1)).setCell ⟨g, 1, none⟩ (.int .u64 t.2.1)).setCell ⟨g, 2, none⟩ (.int .u64 t.2.2)) := ⟨(set3 HS.out.1.1 _ _ _).1, bS_ (bS_ (bS_ HS.out.1.2 HG.out) HG.out) HG.out⟩
              clear HS
              have HS := Aside0.mk hs
              clear hs
              go_roundw
              case rel => exact ⟨i + 1, m, t, by omega, by go_num, rfl, hm, ⟨OT.out, FT.out, HPN.out⟩, HS.out⟩
              case measure => simp [RowKit.intOf]; omega
            · have HTS := Aside0.mk hts
              clear hts
              have hph : (m + 1) + Phi t (maskF width) ≤ 193 := by have := PT.out HTS.out; have := HPH.out; omega
              have hm1 : m + 1 ≤ 193 := by omega
              have HPN := Aside0.mk hph
              clear hph
              refine RS.wp_text [(76, setT t), (77, setT s), (78, .bool true)] (WdT w0 g g8 s t) (by kernel_rfl) (by kernel_rfl) HS.out ?_ ?_
              · exact ⟨RS.StepOK.load 76 (setT t) (by kernel_rfl) (by kernel_rfl) rfl (fun w hS => run_load rfl (by kernel_rfl) (load_set hS.2)),
                  RS.StepOK.load 77 (setT s) (by kernel_rfl) (by kernel_rfl) rfl (fun w hS => run_load rfl (by kernel_rfl) (load_set hS.1.1)),
                  RS.StepOK.load 78 (.bool true) (by kernel_rfl) (by kernel_rfl) rfl (fun w hS => run_bin rfl (by kernel_rfl) (by kernel_rfl) (by kernel_rfl) (neqT_t HTS.out w)), trivial⟩
              rintro w8 hs
              clear HS
              have HS := Aside0.mk hs
              clear hs
              (try simp only [RS.sets, List.setIfInBounds_toArray, List.set_cons_zero, List.set_cons_succ])
              go_upto_region 14 with (fail)
              refine RS.wp_drawn (by kernel_rfl) [(81, setT t), (82, .slice (some ad) l.length c), (83, .int .i64 (i : Int)), (84, .pointer (some (ad.add (i * 3)))), (85, setT x), (86, .int .i64 width), (87, setT t), (88, setT t), (89, .bool false)] (WdT w0 g g8 s t) (by kernel_rfl) (by kernel_rfl) HS.out.drew ?_ ?_
              · exact ⟨RS.StepOK.load 81 (setT t) (by kernel_rfl) (by kernel_rfl) rfl (fun w hS => run_load rfl (by kernel_rfl) (load_set hS.2)),
                  RS.StepOK.pure 82 (by kernel_rfl) rfl (fun w => by kernel_rfl),
                  RS.StepOK.pure 83 (by kernel_rfl) rfl (fun w => by kernel_rfl),
                  RS.StepOK.load 84 (.pointer (some (ad.add (i * 3)))) (by kernel_rfl) (by kernel_rfl) rfl (fun w hS => run_indexAddr rfl (by kernel_rfl) (by kernel_rfl) (index_sets ad l.length c i hin w)),
                  RS.StepOK.load 85 (setT x) (by kernel_rfl) (by kernel_rfl) rfl (fun w hS => run_load rfl (by kernel_rfl) (load_at3 (HX.out.below (hS.1.2)))),
                  RS.StepOK.pure 86 (by kernel_rfl) rfl (fun w => by kernel_rfl),
                  RS.StepOK.call 87 19 #[setT t, setT x, .int .i64 width] (setT t) (by kernel_rfl) (by kernel_rfl) rfl (fun w => by kernel_rfl) (fun w hS => (wid_calls OT.out OX.out width FX.out w (HT.out.below hS.1.2)).mono (by rw [AG.out]; rintro e w' ⟨rfl, hb⟩; exact ⟨rfl, hS.met hb⟩)),
                  RS.StepOK.load 88 (setT t) (by kernel_rfl) (by kernel_rfl) rfl (fun w hS => run_load rfl (by kernel_rfl) (load_set hS.2)),
                  RS.StepOK.load 89 (.bool false) (by kernel_rfl) (by kernel_rfl) rfl (fun w hS => run_bin rfl (by kernel_rfl) (by kernel_rfl) (by kernel_rfl) (neqT_f (a := t) rfl w)), trivial⟩
              rintro w9 hs
              clear HS
              have HS := Aside0.mk hs
              clear hs
              (try simp only [RS.sets, List.setIfInBounds_toArray, List.set_cons_zero, List.set_cons_succ])
              obtain ⟨⟨q0, q1, q2⟩, z0, z1, z2⟩ := rows3 HS.out.1.1
              obtain ⟨⟨p0, p1, p2⟩, -⟩ := rows3 HS.out.2
              go_wp2_with fail
              clear q0 q1 q2 z0 z1 z2 p0 p1 p2
              have hs : WdS w0 g t (((w9.setCell ⟨g, 0, none⟩ (.int .u64 t.1)).setCell ⟨g, 1, none⟩ (.int .u64 t.2.1)).setCell ⟨g, 2, none⟩ (.int .u64 t.2.2)) := ⟨(set3 HS.out.1.1 _ _ _).1, bS_ (bS_ (bS_ HS.out.1.2 HG.out) HG.out) HG.out⟩
              clear HS
              have HS := Aside0.mk hs
              clear hs
              go_roundw
              case rel => exact ⟨i + 1, m + 1, t, by omega, by go_num, by go_num, hm1, ⟨OT.out, FT.out, HPN.out⟩, HS.out⟩
              case measure => simp [RowKit.intOf]; omega
        · have HNO := Aside0.mk hno
          clear hno
          by_cases hhi : maskF width < x.2.2
          · have HHI := Aside0.mk hhi
            clear hhi
            refine RS.wp_drawn (by kernel_rfl) [(20, .slice (some ad) l.length c), (21, .int .i64 (i : Int)), (22, .pointer (some (ad.add (i * 3)))), (23, setT x), (24, .bool true), (25, .bool false), (26, .bool false), (27, .slice (some ad) l.length c), (28, .int .i64 (i : Int)), (29, .pointer (some (ad.add (i * 3)))), (30, setT x), (31, setT none3), (32, .bool true), (33, .bool true), (34, .slice (some ad) l.length c), (35, .int .i64 (i : Int)), (36, .pointer (some (ad.add (i * 3)))), (37, .pointer (some ⟨(ad.add (i * 3)).block, (ad.add (i * 3)).off + 2, none⟩)), (38, .int .u64 x.2.2), (39, .int .i64 width), (40, .int .u64 (maskF width)), (41, .bool true), (42, .bool true), (43, .bool true)] (WdS w0 g s) (by kernel_rfl) (by kernel_rfl) HS.out.drew ?_ ?_
            · exact ⟨RS.StepOK.pure 20 (by kernel_rfl) rfl (fun w => by kernel_rfl),
                RS.StepOK.pure 21 (by kernel_rfl) rfl (fun w => by kernel_rfl),
                RS.StepOK.load 22 (.pointer (some (ad.add (i * 3)))) (by kernel_rfl) (by kernel_rfl) rfl (fun w hS => run_indexAddr rfl (by kernel_rfl) (by kernel_rfl) (index_sets ad l.length c i hin w)),
                RS.StepOK.load 23 (setT x) (by kernel_rfl) (by kernel_rfl) rfl (fun w hS => run_load rfl (by kernel_rfl) (load_at3 (HX.out.below (hS.2)))),
                RS.StepOK.call 24 6 #[setT x] (.bool true) (by kernel_rfl) (by kernel_rfl) rfl (fun w => by kernel_rfl) (fun w hS => (sundialref22_Right.calls _ _ _ true w RX.out).mono (by rintro e w' ⟨rfl, hb⟩; exact ⟨rfl, hS.met hb⟩)),
                RS.StepOK.pure 25 (by kernel_rfl) rfl (fun w => by kernel_rfl),
                RS.StepOK.pure 26 (by kernel_rfl) rfl (fun w => by kernel_rfl),
                RS.StepOK.pure 27 (by kernel_rfl) rfl (fun w => by kernel_rfl),
                RS.StepOK.pure 28 (by kernel_rfl) rfl (fun w => by kernel_rfl),
                RS.StepOK.load 29 (.pointer (some (ad.add (i * 3)))) (by kernel_rfl) (by kernel_rfl) rfl (fun w hS => run_indexAddr rfl (by kernel_rfl) (by kernel_rfl) (index_sets ad l.length c i hin w)),
                RS.StepOK.load 30 (setT x) (by kernel_rfl) (by kernel_rfl) rfl (fun w hS => run_load rfl (by kernel_rfl) (load_at3 (HX.out.below (hS.2)))),
                RS.StepOK.call 31 17 #[] (setT none3) (by kernel_rfl) (by kernel_rfl) rfl (fun w => by kernel_rfl) (fun w hS => (rnone_calls w).mono (by rintro e w' ⟨rfl, hb⟩; exact ⟨rfl, hS.met hb⟩)),
                RS.StepOK.load 32 (.bool true) (by kernel_rfl) (by kernel_rfl) rfl (fun w hS => run_bin rfl (by kernel_rfl) (by kernel_rfl) (by kernel_rfl) (neqT_t HNO.out w)),
                RS.StepOK.pure 33 (by kernel_rfl) rfl (fun w => by kernel_rfl),
                RS.StepOK.pure 34 (by kernel_rfl) rfl (fun w => by kernel_rfl),
                RS.StepOK.pure 35 (by kernel_rfl) rfl (fun w => by kernel_rfl),
                RS.StepOK.load 36 (.pointer (some (ad.add (i * 3)))) (by kernel_rfl) (by kernel_rfl) rfl (fun w hS => run_indexAddr rfl (by kernel_rfl) (by kernel_rfl) (index_sets ad l.length c i hin w)),
                RS.StepOK.pure 37 (by kernel_rfl) rfl (fun w => by kernel_rfl),
                RS.StepOK.load 38 (.int .u64 x.2.2) (by kernel_rfl) (by kernel_rfl) rfl (fun w hS => run_load rfl (by kernel_rfl) (load_at3h (HX.out.below hS.2))),
                RS.StepOK.pure 39 (by kernel_rfl) rfl (fun w => by kernel_rfl),
                RS.StepOK.call 40 18 #[.int .i64 width] (.int .u64 (maskF width)) (by kernel_rfl) (by kernel_rfl) rfl (fun w => by kernel_rfl) (fun w hS => (rmask_calls width w).mono (by rintro e w' ⟨rfl, hb⟩; exact ⟨rfl, hS.met hb⟩)),
                RS.StepOK.load 41 (.bool true) (by kernel_rfl) (by kernel_rfl) rfl (fun w hS => run_bin rfl (by kernel_rfl) (by kernel_rfl) (by kernel_rfl) (gtr_t HHI.out w)),
                RS.StepOK.pure 42 (by kernel_rfl) rfl (fun w => by kernel_rfl),
                RS.StepOK.pure 43 (by kernel_rfl) rfl (fun w => by kernel_rfl), trivial⟩
            rintro w5 hs
            clear HS
            have HS := Aside0.mk hs
            clear hs
            (try simp only [RS.sets, List.setIfInBounds_toArray, List.set_cons_zero, List.set_cons_succ])
            go_wp2_with fail
            go_roundw
            case rel => exact ⟨i + 1, m, s, by omega, by go_num, rfl, hm, HP, HS.out⟩
            case measure => simp [RowKit.intOf]; omega
          · have HHI := Aside0.mk (show x.2.2 ≤ maskF width by omega)
            have FX : Aside0 (Fits x (maskF width)) := ⟨.inr HHI.out⟩
            clear hhi
            refine RS.wp_drawn (by kernel_rfl) [(20, .slice (some ad) l.length c), (21, .int .i64 (i : Int)), (22, .pointer (some (ad.add (i * 3)))), (23, setT x), (24, .bool true), (25, .bool false), (26, .bool false), (27, .slice (some ad) l.length c), (28, .int .i64 (i : Int)), (29, .pointer (some (ad.add (i * 3)))), (30, setT x), (31, setT none3), (32, .bool true), (33, .bool true), (34, .slice (some ad) l.length c), (35, .int .i64 (i : Int)), (36, .pointer (some (ad.add (i * 3)))), (37, .pointer (some ⟨(ad.add (i * 3)).block, (ad.add (i * 3)).off + 2, none⟩)), (38, .int .u64 x.2.2), (39, .int .i64 width), (40, .int .u64 (maskF width)), (41, .bool false), (42, .bool false), (43, .bool false)] (WdS w0 g s) (by kernel_rfl) (by kernel_rfl) HS.out.drew ?_ ?_
            · exact ⟨RS.StepOK.pure 20 (by kernel_rfl) rfl (fun w => by kernel_rfl),
                RS.StepOK.pure 21 (by kernel_rfl) rfl (fun w => by kernel_rfl),
                RS.StepOK.load 22 (.pointer (some (ad.add (i * 3)))) (by kernel_rfl) (by kernel_rfl) rfl (fun w hS => run_indexAddr rfl (by kernel_rfl) (by kernel_rfl) (index_sets ad l.length c i hin w)),
                RS.StepOK.load 23 (setT x) (by kernel_rfl) (by kernel_rfl) rfl (fun w hS => run_load rfl (by kernel_rfl) (load_at3 (HX.out.below (hS.2)))),
                RS.StepOK.call 24 6 #[setT x] (.bool true) (by kernel_rfl) (by kernel_rfl) rfl (fun w => by kernel_rfl) (fun w hS => (sundialref22_Right.calls _ _ _ true w RX.out).mono (by rintro e w' ⟨rfl, hb⟩; exact ⟨rfl, hS.met hb⟩)),
                RS.StepOK.pure 25 (by kernel_rfl) rfl (fun w => by kernel_rfl),
                RS.StepOK.pure 26 (by kernel_rfl) rfl (fun w => by kernel_rfl),
                RS.StepOK.pure 27 (by kernel_rfl) rfl (fun w => by kernel_rfl),
                RS.StepOK.pure 28 (by kernel_rfl) rfl (fun w => by kernel_rfl),
                RS.StepOK.load 29 (.pointer (some (ad.add (i * 3)))) (by kernel_rfl) (by kernel_rfl) rfl (fun w hS => run_indexAddr rfl (by kernel_rfl) (by kernel_rfl) (index_sets ad l.length c i hin w)),
                RS.StepOK.load 30 (setT x) (by kernel_rfl) (by kernel_rfl) rfl (fun w hS => run_load rfl (by kernel_rfl) (load_at3 (HX.out.below (hS.2)))),
                RS.StepOK.call 31 17 #[] (setT none3) (by kernel_rfl) (by kernel_rfl) rfl (fun w => by kernel_rfl) (fun w hS => (rnone_calls w).mono (by rintro e w' ⟨rfl, hb⟩; exact ⟨rfl, hS.met hb⟩)),
                RS.StepOK.load 32 (.bool true) (by kernel_rfl) (by kernel_rfl) rfl (fun w hS => run_bin rfl (by kernel_rfl) (by kernel_rfl) (by kernel_rfl) (neqT_t HNO.out w)),
                RS.StepOK.pure 33 (by kernel_rfl) rfl (fun w => by kernel_rfl),
                RS.StepOK.pure 34 (by kernel_rfl) rfl (fun w => by kernel_rfl),
                RS.StepOK.pure 35 (by kernel_rfl) rfl (fun w => by kernel_rfl),
                RS.StepOK.load 36 (.pointer (some (ad.add (i * 3)))) (by kernel_rfl) (by kernel_rfl) rfl (fun w hS => run_indexAddr rfl (by kernel_rfl) (by kernel_rfl) (index_sets ad l.length c i hin w)),
                RS.StepOK.pure 37 (by kernel_rfl) rfl (fun w => by kernel_rfl),
                RS.StepOK.load 38 (.int .u64 x.2.2) (by kernel_rfl) (by kernel_rfl) rfl (fun w hS => run_load rfl (by kernel_rfl) (load_at3h (HX.out.below hS.2))),
                RS.StepOK.pure 39 (by kernel_rfl) rfl (fun w => by kernel_rfl),
                RS.StepOK.call 40 18 #[.int .i64 width] (.int .u64 (maskF width)) (by kernel_rfl) (by kernel_rfl) rfl (fun w => by kernel_rfl) (fun w hS => (rmask_calls width w).mono (by rintro e w' ⟨rfl, hb⟩; exact ⟨rfl, hS.met hb⟩)),
                RS.StepOK.load 41 (.bool false) (by kernel_rfl) (by kernel_rfl) rfl (fun w hS => run_bin rfl (by kernel_rfl) (by kernel_rfl) (by kernel_rfl) (gtr_f HHI.out w)),
                RS.StepOK.pure 42 (by kernel_rfl) rfl (fun w => by kernel_rfl),
                RS.StepOK.pure 43 (by kernel_rfl) rfl (fun w => by kernel_rfl), trivial⟩
            rintro w5 hs
            clear HS
            have HS := Aside0.mk hs
            clear hs
            (try simp only [RS.sets, List.setIfInBounds_toArray, List.set_cons_zero, List.set_cons_succ])
            have OS := Aside0.mk HP.out.1
            have FS := Aside0.mk HP.out.2.1
            have HPH := Aside0.mk HP.out.2.2
            clear HP
            have hwp := wid_props OS.out OX.out FS.out FX.out HM.out
            have hag := wid_again' (m := maskF width) hwp.1 OX.out hwp.2.2.2.1
            obtain ⟨t, ht⟩ : ∃ t, widT s x (maskF width) = t := ⟨_, rfl⟩
            rw [ht] at hwp hag
            obtain ⟨hot, hft, hst, hxt, hphi⟩ := hwp
            have OT := Aside0.mk hot
            have FT := Aside0.mk hft
            have ST := Aside0.mk hst
            have XT := Aside0.mk hxt
            have PT := Aside0.mk hphi
            have AG := Aside0.mk hag
            have HWT := Aside0.mk ht
            clear hot hft hst hxt hphi hag ht
            go_upto_region 9 with (fail)
            refine RS.wp_choice (C := Nat) (by kernel_rfl) (fun ch => (8, .pointer (some ⟨ch, 0, none⟩)) :: [(44, setT s), (45, .slice (some ad) l.length c), (46, .int .i64 (i : Int)), (47, .pointer (some (ad.add (i * 3)))), (48, setT x), (49, .int .i64 width), (50, setT t)]) (WdN w0 g s t) (by kernel_rfl) (fun ch => by kernel_rfl) 0 (fun f hf => ?_) ?_ ?_
            · exact ⟨HS.out.drew, fun h => (by rw [hf 7 (by decide)] at h; cases h)⟩
            · exact ⟨RS.StepC.of (fun ch => RS.StepE.load 44 (setT s) (by kernel_rfl) (by kernel_rfl) rfl (fun f w h => h) (fun f w p1 p2 h => run_load rfl (by kernel_rfl) (load_set h.1.1))),
                RS.StepC.of (fun ch => RS.StepE.pure 45 (by kernel_rfl) rfl (fun w => by kernel_rfl) (fun f w h => h)),
                RS.StepC.of (fun ch => RS.StepE.pure 46 (by kernel_rfl) rfl (fun w => by kernel_rfl) (fun f w h => h)),
                RS.StepC.of (fun ch => RS.StepE.load 47 (.pointer (some (ad.add (i * 3)))) (by kernel_rfl) (by kernel_rfl) rfl (fun f w h => h) (fun f w p1 p2 h => run_indexAddr rfl (by kernel_rfl) (by kernel_rfl) (index_sets ad l.length c i hin w))),
                RS.StepC.of (fun ch => RS.StepE.load 48 (setT x) (by kernel_rfl) (by kernel_rfl) rfl (fun f w h => h) (fun f w p1 p2 h => run_load rfl (by kernel_rfl) (load_at3 (HX.out.below h.1.2)))),
                RS.StepC.of (fun ch => RS.StepE.pure 49 (by kernel_rfl) rfl (fun w => by kernel_rfl) (fun f w h => h)),
                RS.StepC.of (fun ch => RS.StepE.call 50 19 #[setT s, setT x, .int .i64 width] (setT t) (by kernel_rfl) (by kernel_rfl) rfl (fun w => by kernel_rfl) (fun g w h0 p1 p2 h => (wid_calls OS.out OX.out width FX.out w (HT.out.below h.1.2)).mono (by rw [HWT.out]; rintro e w' ⟨rfl, hb⟩; exact ⟨rfl, h.1.met hb, h.2.met hb⟩))),
                RS.StepC.choose (fun ch => by kernel_rfl) (fun k ch w h0 p1 p2 h => by
                  have h0 : k 7 = false := h0
                  have e8 : k 8 = false := p2 8 (by kernel_rfl) (by decide)
                  have hlt := h.1.lt
                  have hb : Below w.heap.size w (w.alloc (.cells (setC 0 0 0) 24)) := bX_ (Below.refl _ _) _
                  have hn := World.alloc_heap_new w (.cells (setC 0 0 0) 24)
                  refine ⟨_, _, w.heap.size, run_alloc24 rfl, fun d hd => by cases hd; kernel_rfl, RS.Agree.slot (n := 7) (k := 8) (md := .any) (by kernel_rfl) rfl rfl h0 (fun d hne => RS.sets_but _ _ 8 _ _ d hne), h.1.met hb, ?_⟩
                  intro _
                  show g < w.heap.size ∧ _ = some (Obj.cells (bif k 8 then _ else _) 24 (0, 0))
                  rw [e8]
                  exact ⟨hlt, hn⟩),
                RS.StepC.of (fun ch => RS.StepE.event undef (by intro d hd; cases hd) (by kernel_rfl) (fun k w h0 p1 p2 h => by
                  have h0 : k 8 = false := h0
                  have e7 : k 7 = true := p1 7 (by kernel_rfl)
                  obtain ⟨hx, hm⟩ := h.2 e7
                  rw [h0] at hm
                  have hm : w.heap[ch]? = some (.cells (setC 0 0 0) 24 (0, 0)) := hm
                  refine ⟨_, .inr ⟨run_store_set (g := ch) (s := t.1) (l := t.2.1) (h := t.2.2) rfl (by kernel_rfl) (by kernel_rfl) hm, rfl⟩, h.1.set HG.out hx _ _ _, ?_⟩
                  intro _
                  exact ⟨hx, (set3 hm _ _ _).1⟩)), trivial⟩
            rintro f g8 w6 hf hs
            obtain ⟨hs1, hs2⟩ := hs
            simp only [NewB, hf, cond_true, forall_const] at hs2
            clear HS
            have HS := Aside0.mk (show WdT w0 g g8 s t w6 from ⟨hs1, hs2.2⟩)
            have HG8 := Aside0.mk hs2.1
            clear hs1 hs2
            (try simp only [RS.sets, List.setIfInBounds_toArray, List.set_cons_zero, List.set_cons_succ])
            go_upto_region 10 with (fail)
            cases hnt : noB t
            · have HNT := Aside0.mk (show t ≠ none3 from fun e => by rw [e] at hnt; cases hnt)
              have HLE := Aside0.mk (FT.out.le hnt)
              clear hnt
              refine RS.wp_drawn (by kernel_rfl) [(51, setT s), (52, setT t), (53, .bool true), (54, .bool false), (55, .bool false), (56, .slice (some ad) l.length c), (57, .int .i64 (i : Int)), (58, .pointer (some (ad.add (i * 3)))), (59, setT x), (60, setT t), (61, .bool true), (62, .bool false), (63, .bool false), (64, .bool false), (65, setT t), (66, setT none3), (67, .bool true), (68, .bool true), (69, .pointer (some ⟨g8, 2, none⟩)), (70, .int .u64 t.2.2), (71, .int .i64 width), (72, .int .u64 (maskF width)), (73, .bool false), (74, .bool false), (75, .bool false)] (WdT w0 g g8 s t) (by kernel_rfl) (by kernel_rfl) HS.out.drew ?_ ?_
              · exact ⟨RS.StepOK.load 51 (setT s) (by kernel_rfl) (by kernel_rfl) rfl (fun w hS => run_load rfl (by kernel_rfl) (load_set hS.1.1)),
                  RS.StepOK.load 52 (setT t) (by kernel_rfl) (by kernel_rfl) rfl (fun w hS => run_load rfl (by kernel_rfl) (load_set hS.2)),
                  RS.StepOK.call 53 20 #[setT s, setT t] (.bool true) (by kernel_rfl) (by kernel_rfl) rfl (fun w => by kernel_rfl) (fun w hS => (rin_calls (a := s) (b := t) OS.out OT.out w).mono (by rw [ST.out]; rintro e w' ⟨rfl, hb⟩; exact ⟨rfl, hS.met hb⟩)),
                  RS.StepOK.pure 54 (by kernel_rfl) rfl (fun w => by kernel_rfl),
                  RS.StepOK.pure 55 (by kernel_rfl) rfl (fun w => by kernel_rfl),
                  RS.StepOK.pure 56 (by kernel_rfl) rfl (fun w => by kernel_rfl),
                  RS.StepOK.pure 57 (by kernel_rfl) rfl (fun w => by kernel_rfl),
                  RS.StepOK.load 58 (.pointer (some (ad.add (i * 3)))) (by kernel_rfl) (by kernel_rfl) rfl (fun w hS => run_indexAddr rfl (by kernel_rfl) (by kernel_rfl) (index_sets ad l.length c i hin w)),
                  RS.StepOK.load 59 (setT x) (by kernel_rfl) (by kernel_rfl) rfl (fun w hS => run_load rfl (by kernel_rfl) (load_at3 (HX.out.below (hS.1.2)))),
                  RS.StepOK.load 60 (setT t) (by kernel_rfl) (by kernel_rfl) rfl (fun w hS => run_load rfl (by kernel_rfl) (load_set hS.2)),
                  RS.StepOK.call 61 20 #[setT x, setT t] (.bool true) (by kernel_rfl) (by kernel_rfl) rfl (fun w => by kernel_rfl) (fun w hS => (rin_calls (a := x) (b := t) OX.out OT.out w).mono (by rw [XT.out]; rintro e w' ⟨rfl, hb⟩; exact ⟨rfl, hS.met hb⟩)),
                  RS.StepOK.pure 62 (by kernel_rfl) rfl (fun w => by kernel_rfl),
                  RS.StepOK.pure 63 (by kernel_rfl) rfl (fun w => by kernel_rfl),
                  RS.StepOK.pure 64 (by kernel_rfl) rfl (fun w => by kernel_rfl),
                  RS.StepOK.load 65 (setT t) (by kernel_rfl) (by kernel_rfl) rfl (fun w hS => run_load rfl (by kernel_rfl) (load_set hS.2)),
                  RS.StepOK.call 66 17 #[] (setT none3) (by kernel_rfl) (by kernel_rfl) rfl (fun w => by kernel_rfl) (fun w hS => (rnone_calls w).mono (by rintro e w' ⟨rfl, hb⟩; exact ⟨rfl, hS.met hb⟩)),
                  RS.StepOK.load 67 (.bool true) (by kernel_rfl) (by kernel_rfl) rfl (fun w hS => run_bin rfl (by kernel_rfl) (by kernel_rfl) (by kernel_rfl) (neqT_t HNT.out w)),
                  RS.StepOK.pure 68 (by kernel_rfl) rfl (fun w => by kernel_rfl),
                  RS.StepOK.pure 69 (by kernel_rfl) rfl (fun w => by kernel_rfl),
                  RS.StepOK.load 70 (.int .u64 t.2.2) (by kernel_rfl) (by kernel_rfl) rfl (fun w hS => run_load rfl (by kernel_rfl) (load_num (i := 2) Tryd.underlying22 hS.2 rfl)),
                  RS.StepOK.pure 71 (by kernel_rfl) rfl (fun w => by kernel_rfl),
                  RS.StepOK.call 72 18 #[.int .i64 width] (.int .u64 (maskF width)) (by kernel_rfl) (by kernel_rfl) rfl (fun w => by kernel_rfl) (fun w hS => (rmask_calls width w).mono (by rintro e w' ⟨rfl, hb⟩; exact ⟨rfl, hS.met hb⟩)),
                  RS.StepOK.load 73 (.bool false) (by kernel_rfl) (by kernel_rfl) rfl (fun w hS => run_bin rfl (by kernel_rfl) (by kernel_rfl) (by kernel_rfl) (gtr_f HLE.out w)),
                  RS.StepOK.pure 74 (by kernel_rfl) rfl (fun w => by kernel_rfl),
                  RS.StepOK.pure 75 (by kernel_rfl) rfl (fun w => by kernel_rfl), trivial⟩
              rintro w7 hs
              clear HS
              have HS := Aside0.mk hs
              clear hs
              (try simp only [RS.sets, List.setIfInBounds_toArray, List.set_cons_zero, List.set_cons_succ])
              go_upto_region 12 with (fail)
              by_cases hts : t = s
              · have HTS := Aside0.mk hts
                clear hts
                have hph : m + Phi t (maskF width) ≤ 193 := by rw [HTS.out]; exact HPH.out
                have HPN := Aside0.mk hph
                clear hph
                refine RS.wp_text [(76, setT t), (77, setT s), (78, .bool false)] (WdT w0 g g8 s t) (by kernel_rfl) (by kernel_rfl) HS.out ?_ ?_
                · exact ⟨RS.StepOK.load 76 (setT t) (by kernel_rfl) (by kernel_rfl) rfl (fun w hS => run_load rfl (by kernel_rfl) (load_set hS.2)),
                    RS.StepOK.load 77 (setT s) (by kernel_rfl) (by kernel_rfl) rfl (fun w hS => run_load rfl (by kernel_rfl) (load_set hS.1.1)),
                    RS.StepOK.load 78 (.bool false) (by kernel_rfl) (by kernel_rfl) rfl (fun w hS => run_bin rfl (by kernel_rfl) (by kernel_rfl) (by kernel_rfl) (neqT_f HTS.out w)), trivial⟩
                rintro w8 hs
                clear HS
                have HS := Aside0.mk hs
                clear hs
                (try simp only [RS.sets, List.setIfInBounds_toArray, List.set_cons_zero, List.set_cons_succ])
                go_upto_region 14 with (fail)
                refine RS.wp_drawn (by kernel_rfl) [(81, setT t), (82, .slice (some ad) l.length c), (83, .int .i64 (i : Int)), (84, .pointer (some (ad.add (i * 3)))), (85, setT x), (86, .int .i64 width), (87, setT t), (88, setT t), (89, .bool false)] (WdT w0 g g8 s t) (by kernel_rfl) (by kernel_rfl) HS.out.drew ?_ ?_
                · exact ⟨RS.StepOK.load 81 (setT t) (by kernel_rfl) (by kernel_rfl) rfl (fun w hS => run_load rfl (by kernel_rfl) (load_set hS.2)),
                    RS.StepOK.pure 82 (by kernel_rfl) rfl (fun w => by kernel_rfl),
                    RS.StepOK.pure 83 (by kernel_rfl) rfl (fun w => by kernel_rfl),
                    RS.StepOK.load 84 (.pointer (some (ad.add (i * 3)))) (by kernel_rfl) (by kernel_rfl) rfl (fun w hS => run_indexAddr rfl (by kernel_rfl) (by kernel_rfl) (index_sets ad l.length c i hin w)),
                    RS.StepOK.load 85 (setT x) (by kernel_rfl) (by kernel_rfl) rfl (fun w hS => run_load rfl (by kernel_rfl) (load_at3 (HX.out.below (hS.1.2)))),
                    RS.StepOK.pure 86 (by kernel_rfl) rfl (fun w => by kernel_rfl),
                    RS.StepOK.call 87 19 #[setT t, setT x, .int .i64 width] (setT t) (by kernel_rfl) (by kernel_rfl) rfl (fun w => by kernel_rfl) (fun w hS => (wid_calls OT.out OX.out width FX.out w (HT.out.below hS.1.2)).mono (by rw [AG.out]; rintro e w' ⟨rfl, hb⟩; exact ⟨rfl, hS.met hb⟩)),
                    RS.StepOK.load 88 (setT t) (by kernel_rfl) (by kernel_rfl) rfl (fun w hS => run_load rfl (by kernel_rfl) (load_set hS.2)),
                    RS.StepOK.load 89 (.bool false) (by kernel_rfl) (by kernel_rfl) rfl (fun w hS => run_bin rfl (by kernel_rfl) (by kernel_rfl) (by kernel_rfl) (neqT_f (a := t) rfl w)), trivial⟩
                rintro w9 hs
                clear HS
                have HS := Aside0.mk hs
                clear hs
                (try simp only [RS.sets, List.setIfInBounds_toArray, List.set_cons_zero, List.set_cons_succ])
                obtain ⟨⟨q0, q1, q2⟩, z0, z1, z2⟩ := rows3 HS.out.1.1
                obtain ⟨⟨p0, p1, p2⟩, -⟩ := rows3 HS.out.2
                go_wp2_with fail
                clear q0 q1 q2 z0 z1 z2 p0 p1 p2
                have hs : WdS w0 g t (((w9.setCell ⟨g, 0, none⟩ (.int .u64 t.1)).setCell ⟨g, 1, none⟩ (.int .u64 t.2.1)).setCell ⟨g, 2, none⟩ (.int .u64 t.2.2)) := ⟨(set3 HS.out.1.1 _ _ _).1, bS_ (bS_ (bS_ HS.out.1.2 HG.out) HG.out) HG.out⟩
                clear HS
                have HS := Aside0.mk hs
                clear hs
                go_roundw
                case rel => exact ⟨i + 1, m, t, by omega, by go_num, rfl, hm, ⟨OT.out, FT.out, HPN.out⟩, HS.out⟩
                case measure => simp [RowKit.intOf]; omega
              · have HTS := Aside0.mk hts
                clear hts
                have hph : (m + 1) + Phi t (maskF width) ≤ 193 := by have := PT.out HTS.out; have := HPH.out; omega
                have hm1 : m + 1 ≤ 193 := by omega
                have HPN := Aside0.mk hph
                clear hph
                refine RS.wp_text [(76, setT t), (77, setT s), (78, .bool true)] (WdT w0 g g8 s t) (by kernel_rfl) (by kernel_rfl) HS.out ?_ ?_
                · exact ⟨RS.StepOK.load 76 (setT t) (by kernel_rfl) (by kernel_rfl) rfl (fun w hS => run_load rfl (by kernel_rfl) (load_set hS.2)),
                    RS.StepOK.load 77 (setT s) (by kernel_rfl) (by kernel_rfl) rfl (fun w hS => run_load rfl (by kernel_rfl) (load_set hS.1.1)),
                    RS.StepOK.load 78 (.bool true) (by kernel_rfl) (by kernel_rfl) rfl (fun w hS => run_bin rfl (by kernel_rfl) (by kernel_rfl) (by kernel_rfl) (neqT_t HTS.out w)), trivial⟩
                rintro w8 hs
                clear HS
                have HS := Aside0.mk hs
                clear hs
                (try simp only [RS.sets, List.setIfInBounds_toArray, List.set_cons_zero, List.set_cons_succ])
                go_upto_region 14 with (fail)
                refine RS.wp_drawn (by kernel_rfl) [(81, setT t), (82, .slice (some ad) l.length c), (83, .int .i64 (i : Int)), (84, .pointer (some (ad.add (i * 3)))), (85, setT x), (86, .int .i64 width), (87, setT t), (88, setT t), (89, .bool false)] (WdT w0 g g8 s t) (by kernel_rfl) (by kernel_rfl) HS.out.drew ?_ ?_
                · exact ⟨RS.StepOK.load 81 (setT t) (by kernel_rfl) (by kernel_rfl) rfl (fun w hS => run_load rfl (by kernel_rfl) (load_set hS.2)),
                    RS.StepOK.pure 82 (by kernel_rfl) rfl (fun w => by kernel_rfl),
                    RS.StepOK.pure 83 (by kernel_rfl) rfl (fun w => by kernel_rfl),
                    RS.StepOK.load 84 (.pointer (some (ad.add (i * 3)))) (by kernel_rfl) (by kernel_rfl) rfl (fun w hS => run_indexAddr rfl (by kernel_rfl) (by kernel_rfl) (index_sets ad l.length c i hin w)),
                    RS.StepOK.load 85 (setT x) (by kernel_rfl) (by kernel_rfl) rfl (fun w hS => run_load rfl (by kernel_rfl) (load_at3 (HX.out.below (hS.1.2)))),
                    RS.StepOK.pure 86 (by kernel_rfl) rfl (fun w => by kernel_rfl),
                    RS.StepOK.call 87 19 #[setT t, setT x, .int .i64 width] (setT t) (by kernel_rfl) (by kernel_rfl) rfl (fun w => by kernel_rfl) (fun w hS => (wid_calls OT.out OX.out width FX.out w (HT.out.below hS.1.2)).mono (by rw [AG.out]; rintro e w' ⟨rfl, hb⟩; exact ⟨rfl, hS.met hb⟩)),
                    RS.StepOK.load 88 (setT t) (by kernel_rfl) (by kernel_rfl) rfl (fun w hS => run_load rfl (by kernel_rfl) (load_set hS.2)),
                    RS.StepOK.load 89 (.bool false) (by kernel_rfl) (by kernel_rfl) rfl (fun w hS => run_bin rfl (by kernel_rfl) (by kernel_rfl) (by kernel_rfl) (neqT_f (a := t) rfl w)), trivial⟩
                rintro w9 hs
                clear HS
                have HS := Aside0.mk hs
                clear hs
                (try simp only [RS.sets, List.setIfInBounds_toArray, List.set_cons_zero, List.set_cons_succ])
                obtain ⟨⟨q0, q1, q2⟩, z0, z1, z2⟩ := rows3 HS.out.1.1
                obtain ⟨⟨p0, p1, p2⟩, -⟩ := rows3 HS.out.2
                go_wp2_with fail
                clear q0 q1 q2 z0 z1 z2 p0 p1 p2
                have hs : WdS w0 g t (((w9.setCell ⟨g, 0, none⟩ (.int .u64 t.1)).setCell ⟨g, 1, none⟩ (.int .u64 t.2.1)).setCell ⟨g, 2, none⟩ (.int .u64 t.2.2)) := ⟨(set3 HS.out.1.1 _ _ _).1, bS_ (bS_ (bS_ HS.out.1.2 HG.out) HG.out) HG.out⟩
                clear HS
                have HS := Aside0.mk hs
                clear hs
                go_roundw
                case rel => exact ⟨i + 1, m + 1, t, by omega, by go_num, by go_num, hm1, ⟨OT.out, FT.out, HPN.out⟩, HS.out⟩
                case measure => simp [RowKit.intOf]; omega
            · have HNT := Aside0.mk (noB_iff.1 hnt)
              clear hnt
              refine RS.wp_drawn (by kernel_rfl) [(51, setT s), (52, setT t), (53, .bool true), (54, .bool false), (55, .bool false), (56, .slice (some ad) l.length c), (57, .int .i64 (i : Int)), (58, .pointer (some (ad.add (i * 3)))), (59, setT x), (60, setT t), (61, .bool true), (62, .bool false), (63, .bool false), (64, .bool false), (65, setT t), (66, setT none3), (67, .bool false), (68, .bool false), (69, undef), (70, undef), (71, undef), (72, undef), (73, undef), (74, .bool false), (75, .bool false)] (WdT w0 g g8 s t) (by kernel_rfl) (by kernel_rfl) HS.out.drew ?_ ?_
              · exact ⟨RS.StepOK.load 51 (setT s) (by kernel_rfl) (by kernel_rfl) rfl (fun w hS => run_load rfl (by kernel_rfl) (load_set hS.1.1)),
                  RS.StepOK.load 52 (setT t) (by kernel_rfl) (by kernel_rfl) rfl (fun w hS => run_load rfl (by kernel_rfl) (load_set hS.2)),
                  RS.StepOK.call 53 20 #[setT s, setT t] (.bool true) (by kernel_rfl) (by kernel_rfl) rfl (fun w => by kernel_rfl) (fun w hS => (rin_calls (a := s) (b := t) OS.out OT.out w).mono (by rw [ST.out]; rintro e w' ⟨rfl, hb⟩; exact ⟨rfl, hS.met hb⟩)),
                  RS.StepOK.pure 54 (by kernel_rfl) rfl (fun w => by kernel_rfl),
                  RS.StepOK.pure 55 (by kernel_rfl) rfl (fun w => by kernel_rfl),
                  RS.StepOK.pure 56 (by kernel_rfl) rfl (fun w => by kernel_rfl),
                  RS.StepOK.pure 57 (by kernel_rfl) rfl (fun w => by kernel_rfl),
                  RS.StepOK.load 58 (.pointer (some (ad.add (i * 3)))) (by kernel_rfl) (by kernel_rfl) rfl (fun w hS => run_indexAddr rfl (by kernel_rfl) (by kernel_rfl) (index_sets ad l.length c i hin w)),
                  RS.StepOK.load 59 (setT x) (by kernel_rfl) (by kernel_rfl) rfl (fun w hS => run_load rfl (by kernel_rfl) (load_at3 (HX.out.below (hS.1.2)))),
                  RS.StepOK.load 60 (setT t) (by kernel_rfl) (by kernel_rfl) rfl (fun w hS => run_load rfl (by kernel_rfl) (load_set hS.2)),
                  RS.StepOK.call 61 20 #[setT x, setT t] (.bool true) (by kernel_rfl) (by kernel_rfl) rfl (fun w => by kernel_rfl) (fun w hS => (rin_calls (a := x) (b := t) OX.out OT.out w).mono (by rw [XT.out]; rintro e w' ⟨rfl, hb⟩; exact ⟨rfl, hS.met hb⟩)),
                  RS.StepOK.pure 62 (by kernel_rfl) rfl (fun w => by kernel_rfl),
                  RS.StepOK.pure 63 (by kernel_rfl) rfl (fun w => by kernel_rfl),
                  RS.StepOK.pure 64 (by kernel_rfl) rfl (fun w => by kernel_rfl),
                  RS.StepOK.load 65 (setT t) (by kernel_rfl) (by kernel_rfl) rfl (fun w hS => run_load rfl (by kernel_rfl) (load_set hS.2)),
                  RS.StepOK.call 66 17 #[] (setT none3) (by kernel_rfl) (by kernel_rfl) rfl (fun w => by kernel_rfl) (fun w hS => (rnone_calls w).mono (by rintro e w' ⟨rfl, hb⟩; exact ⟨rfl, hS.met hb⟩)),
                  RS.StepOK.load 67 (.bool false) (by kernel_rfl) (by kernel_rfl) rfl (fun w hS => run_bin rfl (by kernel_rfl) (by kernel_rfl) (by kernel_rfl) (neqT_f HNT.out w)),
                  RS.StepOK.pure 68 (by kernel_rfl) rfl (fun w => by kernel_rfl),
                  RS.StepOK.off 69 (by kernel_rfl) rfl (by kernel_rfl),
                  RS.StepOK.off 70 (by kernel_rfl) rfl (by kernel_rfl),
                  RS.StepOK.off 71 (by kernel_rfl) rfl (by kernel_rfl),
                  RS.StepOK.off 72 (by kernel_rfl) rfl (by kernel_rfl),
                  RS.StepOK.off 73 (by kernel_rfl) rfl (by kernel_rfl),
                  RS.StepOK.pure 74 (by kernel_rfl) rfl (fun w => by kernel_rfl),
                  RS.StepOK.pure 75 (by kernel_rfl) rfl (fun w => by kernel_rfl), trivial⟩
              rintro w7 hs
              clear HS
              have HS := Aside0.mk hs
              clear hs
              (try simp only [RS.sets, List.setIfInBounds_toArray, List.set_cons_zero, List.set_cons_succ])
              go_upto_region 12 with (fail)
              by_cases hts : t = s
              · have HTS := Aside0.mk hts
                clear hts
                have hph : m + Phi t (maskF width) ≤ 193 := by rw [HTS.out]; exact HPH.out
                have HPN := Aside0.mk hph
                clear hph
                refine RS.wp_text [(76, setT t), (77, setT s), (78, .bool false)] (WdT w0 g g8 s t) (by kernel_rfl) (by kernel_rfl) HS.out ?_ ?_
                · exact ⟨RS.StepOK.load 76 (setT t) (by kernel_rfl) (by kernel_rfl) rfl (fun w hS => run_load rfl (by kernel_rfl) (load_set hS.2)),
                    RS.StepOK.load 77 (setT s) (by kernel_rfl) (by kernel_rfl) rfl (fun w hS => run_load rfl (by kernel_rfl) (load_set hS.1.1)),
                    RS.StepOK.load 78 (.bool false) (by kernel_rfl) (by kernel_rfl) rfl (fun w hS => run_bin rfl (by kernel_rfl) (by kernel_rfl) (by kernel_rfl) (neqT_f HTS.out w)), trivial⟩
                rintro w8 hs
                clear HS
                have HS := Aside0.mk hs
                clear hs
                (try simp only [RS.sets, List.setIfInBounds_toArray, List.set_cons_zero, List.set_cons_succ])
                go_upto_region 14 with (fail)
                refine RS.wp_drawn (by kernel_rfl) [(81, setT t), (82, .slice (some ad) l.length c), (83, .int .i64 (i : Int)), (84, .pointer (some (ad.add (i * 3)))), (85, setT x), (86, .int .i64 width), (87, setT t), (88, setT t), (89, .bool false)] (WdT w0 g g8 s t) (by kernel_rfl) (by kernel_rfl) HS.out.drew ?_ ?_
                · exact ⟨RS.StepOK.load 81 (setT t) (by kernel_rfl) (by kernel_rfl) rfl (fun w hS => run_load rfl (by kernel_rfl) (load_set hS.2)),
                    RS.StepOK.pure 82 (by kernel_rfl) rfl (fun w => by kernel_rfl),
                    RS.StepOK.pure 83 (by kernel_rfl) rfl (fun w => by kernel_rfl),
                    RS.StepOK.load 84 (.pointer (some (ad.add (i * 3)))) (by kernel_rfl) (by kernel_rfl) rfl (fun w hS => run_indexAddr rfl (by kernel_rfl) (by kernel_rfl) (index_sets ad l.length c i hin w)),
                    RS.StepOK.load 85 (setT x) (by kernel_rfl) (by kernel_rfl) rfl (fun w hS => run_load rfl (by kernel_rfl) (load_at3 (HX.out.below (hS.1.2)))),
                    RS.StepOK.pure 86 (by kernel_rfl) rfl (fun w => by kernel_rfl),
                    RS.StepOK.call 87 19 #[setT t, setT x, .int .i64 width] (setT t) (by kernel_rfl) (by kernel_rfl) rfl (fun w => by kernel_rfl) (fun w hS => (wid_calls OT.out OX.out width FX.out w (HT.out.below hS.1.2)).mono (by rw [AG.out]; rintro e w' ⟨rfl, hb⟩; exact ⟨rfl, hS.met hb⟩)),
                    RS.StepOK.load 88 (setT t) (by kernel_rfl) (by kernel_rfl) rfl (fun w hS => run_load rfl (by kernel_rfl) (load_set hS.2)),
                    RS.StepOK.load 89 (.bool false) (by kernel_rfl) (by kernel_rfl) rfl (fun w hS => run_bin rfl (by kernel_rfl) (by kernel_rfl) (by kernel_rfl) (neqT_f (a := t) rfl w)), trivial⟩
                rintro w9 hs
                clear HS
                have HS := Aside0.mk hs
                clear hs
                (try simp only [RS.sets, List.setIfInBounds_toArray, List.set_cons_zero, List.set_cons_succ])
                obtain ⟨⟨q0, q1, q2⟩, z0, z1, z2⟩ := rows3 HS.out.1.1
                obtain ⟨⟨p0, p1, p2⟩, -⟩ := rows3 HS.out.2
                go_wp2_with fail
                clear q0 q1 q2 z0 z1 z2 p0 p1 p2
                have hs : WdS w0 g t (((w9.setCell ⟨g, 0, none⟩ (.int .u64 t.1)).setCell ⟨g, 1, none⟩ (.int .u64 t.2.1)).setCell ⟨g, 2, none⟩ (.int .u64 t.2.2)) := ⟨(set3 HS.out.1.1 _ _ _).1, bS_ (bS_ (bS_ HS.out.1.2 HG.out) HG.out) HG.out⟩
                clear HS
                have HS := Aside0.mk hs
                clear hs
                go_roundw
                case rel => exact ⟨i + 1, m, t, by omega, by go_num, rfl, hm, ⟨OT.out, FT.out, HPN.out⟩, HS.out⟩
                case measure => simp [RowKit.intOf]; omega
              · have HTS := Aside0.mk hts
                clear hts
                have hph : (m + 1) + Phi t (maskF width) ≤ 193 := by have := PT.out HTS.out; have := HPH.out; omega
                have hm1 : m + 1 ≤ 193 := by omega
                have HPN := Aside0.mk hph
                clear hph
                refine RS.wp_text [(76, setT t), (77, setT s), (78, .bool true)] (WdT w0 g g8 s t) (by kernel_rfl) (by kernel_rfl) HS.out ?_ ?_
                · exact ⟨RS.StepOK.load 76 (setT t) (by kernel_rfl) (by kernel_rfl) rfl (fun w hS => run_load rfl (by kernel_rfl) (load_set hS.2)),
                    RS.StepOK.load 77 (setT s) (by kernel_rfl) (by kernel_rfl) rfl (fun w hS => run_load rfl (by kernel_rfl) (load_set hS.1.1)),
                    RS.StepOK.load 78 (.bool true) (by kernel_rfl) (by kernel_rfl) rfl (fun w hS => run_bin rfl (by kernel_rfl) (by kernel_rfl) (by kernel_rfl) (neqT_t HTS.out w)), trivial⟩
                rintro w8 hs
                clear HS
                have HS := Aside0.mk hs
                clear hs
                (try simp only [RS.sets, List.setIfInBounds_toArray, List.set_cons_zero, List.set_cons_succ])
                go_upto_region 14 with (fail)
                refine RS.wp_drawn (by kernel_rfl) [(81, setT t), (82, .slice (some ad) l.length c), (83, .int .i64 (i : Int)), (84, .pointer (some (ad.add (i * 3)))), (85, setT x), (86, .int .i64 width), (87, setT t), (88, setT t), (89, .bool false)] (WdT w0 g g8 s t) (by kernel_rfl) (by kernel_rfl) HS.out.drew ?_ ?_
                · exact ⟨RS.StepOK.load 81 (setT t) (by kernel_rfl) (by kernel_rfl) rfl (fun w hS => run_load rfl (by kernel_rfl) (load_set hS.2)),
                    RS.StepOK.pure 82 (by kernel_rfl) rfl (fun w => by kernel_rfl),
                    RS.StepOK.pure 83 (by kernel_rfl) rfl (fun w => by kernel_rfl),
                    RS.StepOK.load 84 (.pointer (some (ad.add (i * 3)))) (by kernel_rfl) (by kernel_rfl) rfl (fun w hS => run_indexAddr rfl (by kernel_rfl) (by kernel_rfl) (index_sets ad l.length c i hin w)),
                    RS.StepOK.load 85 (setT x) (by kernel_rfl) (by kernel_rfl) rfl (fun w hS => run_load rfl (by kernel_rfl) (load_at3 (HX.out.below (hS.1.2)))),
                    RS.StepOK.pure 86 (by kernel_rfl) rfl (fun w => by kernel_rfl),
                    RS.StepOK.call 87 19 #[setT t, setT x, .int .i64 width] (setT t) (by kernel_rfl) (by kernel_rfl) rfl (fun w => by kernel_rfl) (fun w hS => (wid_calls OT.out OX.out width FX.out w (HT.out.below hS.1.2)).mono (by rw [AG.out]; rintro e w' ⟨rfl, hb⟩; exact ⟨rfl, hS.met hb⟩)),
                    RS.StepOK.load 88 (setT t) (by kernel_rfl) (by kernel_rfl) rfl (fun w hS => run_load rfl (by kernel_rfl) (load_set hS.2)),
                    RS.StepOK.load 89 (.bool false) (by kernel_rfl) (by kernel_rfl) rfl (fun w hS => run_bin rfl (by kernel_rfl) (by kernel_rfl) (by kernel_rfl) (neqT_f (a := t) rfl w)), trivial⟩
                rintro w9 hs
                clear HS
                have HS := Aside0.mk hs
                clear hs
                (try simp only [RS.sets, List.setIfInBounds_toArray, List.set_cons_zero, List.set_cons_succ])
                obtain ⟨⟨q0, q1, q2⟩, z0, z1, z2⟩ := rows3 HS.out.1.1
                obtain ⟨⟨p0, p1, p2⟩, -⟩ := rows3 HS.out.2
                go_wp2_with fail
                clear q0 q1 q2 z0 z1 z2 p0 p1 p2
                have hs : WdS w0 g t (((w9.setCell ⟨g, 0, none⟩ (.int .u64 t.1)).setCell ⟨g, 1, none⟩ (.int .u64 t.2.1)).setCell ⟨g, 2, none⟩ (.int .u64 t.2.2)) := ⟨(set3 HS.out.1.1 _ _ _).1, bS_ (bS_ (bS_ HS.out.1.2 HG.out) HG.out) HG.out⟩
                clear HS
                have HS := Aside0.mk hs
                clear hs
                go_roundw
                case rel => exact ⟨i + 1, m + 1, t, by omega, by go_num, by go_num, hm1, ⟨OT.out, FT.out, HPN.out⟩, HS.out⟩
                case measure => simp [RowKit.intOf]; omega
    · go_upto_region 6 with (fail)
      refine RS.wp_text [(14, .int .i64 (i : Int)), (15, .slice A l.length c), (16, .int .i64 (l.length : Int)), (17, .bool false)] (WdS w0 g s) (by kernel_rfl) (by kernel_rfl) HS.out ?_ ?_
      · exact ⟨RS.StepOK.pure 14 (by kernel_rfl) rfl (fun w => by kernel_rfl),
          RS.StepOK.pure 15 (by kernel_rfl) rfl (fun w => by kernel_rfl),
          RS.StepOK.pure 16 (by kernel_rfl) rfl (fun w => by kernel_rfl),
          RS.StepOK.load 17 (.bool false) (by kernel_rfl) (by kernel_rfl) rfl (fun w hS => run_bin rfl (by kernel_rfl) (by kernel_rfl) (by kernel_rfl) (lssi_f (show (l.length : Int) ≤ (i : Int) by omega) w)), trivial⟩
      rintro w4 hs
      clear HS
      have HS := Aside0.mk hs
      clear hs
      (try simp only [RS.sets, List.setIfInBounds_toArray, List.set_cons_zero, List.set_cons_succ])
      go_upto_region 17 with (fail)
      refine RS.wp_text [(91, .int .i64 (m : Int)), (92, .bool true), (93, .bool true), (94, .bool true), (95, .bool true), (4, .bool true)] (WdS w0 g s) (by kernel_rfl) (by kernel_rfl) HS.out ?_ ?_
      · exact ⟨RS.StepOK.pure 91 (by kernel_rfl) rfl (fun w => by kernel_rfl),
          RS.StepOK.load 92 (.bool true) (by kernel_rfl) (by kernel_rfl) rfl (fun w hS => run_bin rfl (by kernel_rfl) (by kernel_rfl) (by kernel_rfl) (leqi_t (show (m : Int) ≤ 200 by omega) w)),
          RS.StepOK.pure 93 (by kernel_rfl) rfl (fun w => by kernel_rfl),
          RS.StepOK.call 94 8 #[] (.bool true) (by kernel_rfl) (by kernel_rfl) rfl (fun w => by kernel_rfl) (fun w hS => (wakes_calls w (HT.out.below hS.2)).mono (by rintro e w' ⟨rfl, hb⟩; exact ⟨rfl, hS.met hb⟩)),
          RS.StepOK.pure 95 (by kernel_rfl) rfl (fun w => by kernel_rfl),
          RS.StepOK.pure 4 (by kernel_rfl) rfl (fun w => by kernel_rfl), trivial⟩
      rintro w5 hs
      clear HS
      have HS := Aside0.mk hs
      clear hs
      (try simp only [RS.sets, List.setIfInBounds_toArray, List.set_cons_zero, List.set_cons_succ])
      go_wp2_with fail
      go_ret
      exact ⟨rfl, HS.out.2⟩
end Go.Proofs.YtpphcfkldhemeaaDoor.B
