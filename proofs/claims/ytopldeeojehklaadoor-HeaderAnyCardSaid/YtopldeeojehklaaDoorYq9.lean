/- header.each: segments, sections, one behind the other. -/
import Derived.Test.YtopldeeojehklaaDoorYq8
namespace Go.Proofs.YtopldeeojehklaaDoor.B
open Go.RowKit Go.Proofs.YtopldeeojehklaaDoorW.PrintWords Go.Proofs.YtopldeeojehklaaDoorW.PrintLast Go.Proofs.YtopldeeojehklaaDoorW.PrintMore Go.RF
set_option linter.unusedVariables false
set_option linter.unusedSimpArgs false
attribute [local go_sem] Oper.semAt_some
attribute [local go_sem] max2_int min2_int max_two min_two
theorem gtrw_t {x y : Int} (h : y < x) (w : World) : (binOp .gtr 23 (.int .u64 x) (.int .u64 y)).run Tryd.prog w = .ok (.bool true) w := by simp [binOp, Op.intCmp]; omega
theorem gtrw_f {x y : Int} (h : ¬ y < x) (w : World) : (binOp .gtr 23 (.int .u64 x) (.int .u64 y)).run Tryd.prog w = .ok (.bool false) w := by simp [binOp, Op.intCmp]; omega
theorem mul_w {x y : Int} (h0 : 0 ≤ x * y) (h1 : x * y < 1000000000000) (w : World) : (binOp .mul 23 (.int .u64 x) (.int .u64 y)).run Tryd.prog w = .ok (.int .u64 (x * y)) w := by
  have e : IntKind.u64.wrap (x * y) = x * y := wrapU h0 (by omega)
  simp [binOp, Op.intArith, e]
theorem sub_w {x y : Int} (h0 : 0 ≤ x - y) (h1 : x - y < 1000000000000) (w : World) : (binOp .sub 23 (.int .u64 x) (.int .u64 y)).run Tryd.prog w = .ok (.int .u64 (x - y)) w := by
  have e : IntKind.u64.wrap (x - y) = x - y := wrapU h0 (by omega)
  simp [binOp, Op.intArith, e]
theorem wrap_n {n : Nat} (h : n ≤ 131072) : IntKind.u64.wrap (n : Int) = (n : Int) := wrapU (by omega) (by omega)
def segV (xs : List Int) : S30 := ⟨IntKind.u32.wrap (fieldN xs (0, 4)), IntKind.u32.wrap (fieldN xs (4, 4)), fieldN xs (8, 8), fieldN xs (16, 8), fieldN xs (32, 8), fieldN xs (40, 8), fieldN xs (48, 8)⟩
def secV (xs : List Int) : S32 := ⟨IntKind.u32.wrap (fieldN xs (4, 4)), fieldN xs (24, 8), fieldN xs (32, 8), IntKind.u32.wrap (fieldN xs (40, 4)), fieldN xs (56, 8)⟩
def segsP (xs : List Int) (fr : Nat) (m : Nat) : List S30 := (List.range m).map fun i => segV (xs.drop (fr + 56 * i))
def secsP (xs : List Int) (fr : Nat) (m : Nat) : List S32 := (List.range m).map fun i => secV (xs.drop (fr + 64 * i))
theorem segsP_succ (xs : List Int) (fr m : Nat) : segsP xs fr (m + 1) = segsP xs fr m ++ [segV (xs.drop (fr + 56 * m))] := by simp [segsP, List.range_succ]
theorem secsP_succ (xs : List Int) (fr m : Nat) : secsP xs fr (m + 1) = secsP xs fr m ++ [secV (xs.drop (fr + 64 * m))] := by simp [secsP, List.range_succ]
theorem slice_rest (ad : Addr) (n c k : Nat) (i : Int) (hi : i = (k : Int)) (h : k < n) (hc : n ≤ c) (W : World) :
    (Instr.slice 22 (.slice (some ad) n c) (some (.int .u64 i)) none none).run Tryd.prog W = .ok (.slice (some (ad.add k)) (n - k) (c - k)) W := by
  have hu : Tryd.prog.underlying 22 = some (.slice 5) := by kernel_rfl
  have hcl : Tryd.prog.cellsOf 5 = 1 := by kernel_rfl
  subst hi
  have h1 : (0 : Int) ≤ (k : Int) := by omega
  have h2 : (k : Int) ≤ (n : Int) := by omega
  go_simp
  intro e
  omega
theorem Row8.drop {w : World} {ad : Addr} {xs : List Int} (h : Row8 w ad xs) (k : Nat) : Row8 w (ad.add k) (xs.drop k) := fun j hj => by
  rw [List.length_drop] at hj
  rw [Go.Deep.add_add, h (k + j) (by omega)]
  congr 2
  simp only [List.getD_eq_getElem?_getD, List.getElem?_drop]
theorem segment_at (ad : Addr) (n c : Nat) (xs : List Int) (k : Nat) (w : World) (hT : Tab w) (hx : Row8 w ad xs) (hb : BB xs) (hn : xs.length = n) (hc : n ≤ c) (hk : k + 56 ≤ n) (hn2 : n ≤ 1000000) :
    Calls Tryd.prog 20 #[.slice (some (ad.add k)) (n - k) (c - k)] w fun e w' => e = .returned (.tuple #[.agg #[.int .u32 (segV (xs.drop k)).f0, .int .u32 (segV (xs.drop k)).f1, .int .u64 (segV (xs.drop k)).f2, .int .u64 (segV (xs.drop k)).f3, .int .u64 (segV (xs.drop k)).f4, .int .u64 (segV (xs.drop k)).f5, .int .u64 (segV (xs.drop k)).f6], .int .i64 0]) ∧ Below w.heap.size w w' := by
  have := segment_long (ad.add k) (c - k) (xs.drop k) (fieldN (xs.drop k) (0, 4)) (fieldN (xs.drop k) (4, 4)) (fieldN (xs.drop k) (8, 8)) (fieldN (xs.drop k) (16, 8)) (fieldN (xs.drop k) (32, 8)) (fieldN (xs.drop k) (40, 8)) (fieldN (xs.drop k) (48, 8)) rfl w hT (hx.drop k) (hb.drop k) (by rw [List.length_drop]; omega) (by rw [List.length_drop]; omega) (by rw [List.length_drop]; omega)
  rw [List.length_drop, hn] at this
  exact this
theorem section_at (ad : Addr) (n c : Nat) (xs : List Int) (k : Nat) (w : World) (hT : Tab w) (hx : Row8 w ad xs) (hb : BB xs) (hn : xs.length = n) (hc : n ≤ c) (hk : k + 64 ≤ n) (hn2 : n ≤ 1000000) :
    Calls Tryd.prog 22 #[.slice (some (ad.add k)) (n - k) (c - k)] w fun e w' => e = .returned (.tuple #[.agg #[.int .u32 (secV (xs.drop k)).f0, .int .u64 (secV (xs.drop k)).f1, .int .u64 (secV (xs.drop k)).f2, .int .u32 (secV (xs.drop k)).f3, .int .u64 (secV (xs.drop k)).f4], .int .i64 0]) ∧ Below w.heap.size w w' := by
  have := section_long (ad.add k) (c - k) (xs.drop k) (fieldN (xs.drop k) (4, 4)) (fieldN (xs.drop k) (24, 8)) (fieldN (xs.drop k) (32, 8)) (fieldN (xs.drop k) (40, 4)) (fieldN (xs.drop k) (56, 8)) rfl w hT (hx.drop k) (hb.drop k) (by rw [List.length_drop]; omega) (by rw [List.length_drop]; omega) (by rw [List.length_drop]; omega)
  rw [List.length_drop, hn] at this
  exact this
set_option maxHeartbeats 8000000 in
set_option maxRecDepth 100000 in
theorem each_segment_bad (A : Option Addr) (n c : Nat) (fr many : Nat) (w : World) (h0 : 0 < many) (hm : many ≤ 65535) (hn2 : n ≤ 131072) (h : n < fr ∨ n < fr + 56 * many) :
    Calls Tryd.prog 27 #[.slice A n c, .int .u64 (fr : Int), .int .u64 (many : Int), .int .i64 56, .func (.func 20) #[] #[]] w fun e w' => e = .returned (.tuple #[.slice none 0 0, .int .i64 33]) ∧ Below w.heap.size w w' := by
  go_enter Tryd.func27, Tryd.ntmps27
  go_upto_region 1 with (fail)
  by_cases hc : n < fr
  · skip
    refine RS.wp_text [(15, .int .u64 (many : Int)), (16, .bool true), (17, .bool true), (18, .int .u64 (fr : Int)), (19, .slice A n c), (20, .int .i64 (n : Int)), (21, .int .u64 (IntKind.u64.wrap (n : Int))), (22, .bool true), (23, .bool true), (24, undef), (25, undef), (26, undef), (27, undef), (28, undef), (29, undef), (30, undef), (31, undef), (32, undef), (33, undef), (34, .bool true), (35, .bool true)] (fun w' => w' = w) (by kernel_rfl) (by kernel_rfl) rfl ?_ ?_
    · exact ⟨RS.StepOK.pure 15 (by kernel_rfl) rfl (fun w => by kernel_rfl),
        RS.StepOK.load 16 (.bool true) (by kernel_rfl) (by kernel_rfl) rfl (fun w hS => run_bin rfl (by kernel_rfl) (by kernel_rfl) (by kernel_rfl) (gtrw_t (show (0 : Int) < (many : Int) by omega) w)),
        RS.StepOK.pure 17 (by kernel_rfl) rfl (fun w => by kernel_rfl),
        RS.StepOK.pure 18 (by kernel_rfl) rfl (fun w => by kernel_rfl),
        RS.StepOK.pure 19 (by kernel_rfl) rfl (fun w => by kernel_rfl),
        RS.StepOK.pure 20 (by kernel_rfl) rfl (fun w => by kernel_rfl),
        RS.StepOK.pure 21 (by kernel_rfl) rfl (fun w => by kernel_rfl),
        RS.StepOK.load 22 (.bool true) (by kernel_rfl) (by kernel_rfl) rfl (fun w hS => run_bin rfl (by kernel_rfl) (by kernel_rfl) (by kernel_rfl) (gtrw_t (show IntKind.u64.wrap (n : Int) < (fr : Int) by rw [wrap_n hn2]; omega) w)),
        RS.StepOK.pure 23 (by kernel_rfl) rfl (fun w => by kernel_rfl),
        RS.StepOK.off 24 (by kernel_rfl) rfl (by kernel_rfl),
        RS.StepOK.off 25 (by kernel_rfl) rfl (by kernel_rfl),
        RS.StepOK.off 26 (by kernel_rfl) rfl (by kernel_rfl),
        RS.StepOK.off 27 (by kernel_rfl) rfl (by kernel_rfl),
        RS.StepOK.off 28 (by kernel_rfl) rfl (by kernel_rfl),
        RS.StepOK.off 29 (by kernel_rfl) rfl (by kernel_rfl),
        RS.StepOK.off 30 (by kernel_rfl) rfl (by kernel_rfl),
        RS.StepOK.off 31 (by kernel_rfl) rfl (by kernel_rfl),
        RS.StepOK.off 32 (by kernel_rfl) rfl (by kernel_rfl),
        RS.StepOK.off 33 (by kernel_rfl) rfl (by kernel_rfl),
        RS.StepOK.pure 34 (by kernel_rfl) rfl (fun w => by kernel_rfl),
        RS.StepOK.pure 35 (by kernel_rfl) rfl (fun w => by kernel_rfl), trivial⟩
    rintro w2 hS
    obtain rfl := hS
    (try simp only [RS.sets, List.setIfInBounds_toArray, List.set_cons_zero, List.set_cons_succ])
    (try simp only [wrap_n hn2])
    go_wp2_with fail
    go_ret2
    exact ⟨rfl, Below.refl _ _⟩
  · skip
    refine RS.wp_text [(15, .int .u64 (many : Int)), (16, .bool true), (17, .bool true), (18, .int .u64 (fr : Int)), (19, .slice A n c), (20, .int .i64 (n : Int)), (21, .int .u64 (IntKind.u64.wrap (n : Int))), (22, .bool false), (23, .bool false), (24, .int .i64 56), (25, .int .u64 56), (26, .int .u64 (many : Int)), (27, .int .u64 (56 * (many : Int))), (28, .slice A n c), (29, .int .i64 (n : Int)), (30, .int .u64 (IntKind.u64.wrap (n : Int))), (31, .int .u64 (fr : Int)), (32, .int .u64 (IntKind.u64.wrap (n : Int) - (fr : Int))), (33, .bool true), (34, .bool true), (35, .bool true)] (fun w' => w' = w) (by kernel_rfl) (by kernel_rfl) rfl ?_ ?_
    · exact ⟨RS.StepOK.pure 15 (by kernel_rfl) rfl (fun w => by kernel_rfl),
        RS.StepOK.load 16 (.bool true) (by kernel_rfl) (by kernel_rfl) rfl (fun w hS => run_bin rfl (by kernel_rfl) (by kernel_rfl) (by kernel_rfl) (gtrw_t (show (0 : Int) < (many : Int) by omega) w)),
        RS.StepOK.pure 17 (by kernel_rfl) rfl (fun w => by kernel_rfl),
        RS.StepOK.pure 18 (by kernel_rfl) rfl (fun w => by kernel_rfl),
        RS.StepOK.pure 19 (by kernel_rfl) rfl (fun w => by kernel_rfl),
        RS.StepOK.pure 20 (by kernel_rfl) rfl (fun w => by kernel_rfl),
        RS.StepOK.pure 21 (by kernel_rfl) rfl (fun w => by kernel_rfl),
        RS.StepOK.load 22 (.bool false) (by kernel_rfl) (by kernel_rfl) rfl (fun w hS => run_bin rfl (by kernel_rfl) (by kernel_rfl) (by kernel_rfl) (gtrw_f (show ¬ IntKind.u64.wrap (n : Int) < (fr : Int) by rw [wrap_n hn2]; omega) w)),
        RS.StepOK.pure 23 (by kernel_rfl) rfl (fun w => by kernel_rfl),
        RS.StepOK.pure 24 (by kernel_rfl) rfl (fun w => by kernel_rfl),
        RS.StepOK.pure 25 (by kernel_rfl) rfl (fun w => by kernel_rfl),
        RS.StepOK.pure 26 (by kernel_rfl) rfl (fun w => by kernel_rfl),
        RS.StepOK.load 27 (.int .u64 (56 * (many : Int))) (by kernel_rfl) (by kernel_rfl) rfl (fun w hS => run_bin rfl (by kernel_rfl) (by kernel_rfl) (by kernel_rfl) (mul_w (x := 56) (y := (many : Int)) (by omega) (by omega) w)),
        RS.StepOK.pure 28 (by kernel_rfl) rfl (fun w => by kernel_rfl),
        RS.StepOK.pure 29 (by kernel_rfl) rfl (fun w => by kernel_rfl),
        RS.StepOK.pure 30 (by kernel_rfl) rfl (fun w => by kernel_rfl),
        RS.StepOK.pure 31 (by kernel_rfl) rfl (fun w => by kernel_rfl),
        RS.StepOK.load 32 (.int .u64 (IntKind.u64.wrap (n : Int) - (fr : Int))) (by kernel_rfl) (by kernel_rfl) rfl (fun w hS => run_bin rfl (by kernel_rfl) (by kernel_rfl) (by kernel_rfl) (sub_w (x := IntKind.u64.wrap (n : Int)) (y := (fr : Int)) (by rw [wrap_n hn2]; omega) (by rw [wrap_n hn2]; omega) w)),
        RS.StepOK.load 33 (.bool true) (by kernel_rfl) (by kernel_rfl) rfl (fun w hS => run_bin rfl (by kernel_rfl) (by kernel_rfl) (by kernel_rfl) (gtrw_t (show IntKind.u64.wrap (n : Int) - (fr : Int) < 56 * (many : Int) by rw [wrap_n hn2]; omega) w)),
        RS.StepOK.pure 34 (by kernel_rfl) rfl (fun w => by kernel_rfl),
        RS.StepOK.pure 35 (by kernel_rfl) rfl (fun w => by kernel_rfl), trivial⟩
    rintro w2 hS
    obtain rfl := hS
    (try simp only [RS.sets, List.setIfInBounds_toArray, List.set_cons_zero, List.set_cons_succ])
    (try simp only [wrap_n hn2])
    go_wp2_with fail
    go_ret2
    exact ⟨rfl, Below.refl _ _⟩
set_option maxHeartbeats 8000000 in
set_option maxRecDepth 100000 in
theorem each_segment (ad : Addr) (n c : Nat) (fr many : Nat) (xs : List Int) (w : World) (hT : Tab w) (hx : Row8 w ad xs) (hb : BB xs) (hn : xs.length = n) (hc : n ≤ c) (hn2 : n ≤ 131072) (hm : many ≤ 65535) (h : many = 0 ∨ fr + 56 * many ≤ n) :
    Calls Tryd.prog 27 #[.slice (some ad) n c, .int .u64 (fr : Int), .int .u64 (many : Int), .int .i64 56, .func (.func 20) #[] #[]] w fun e w' => ∃ v, e = .returned (.tuple #[v, .int .i64 0]) ∧ Kd.R k30 30 w' w.heap.size (fun _ => True) v (segsP xs fr many) ∧ Below w.heap.size w w' := by
  have HT := Aside0.mk hT
  have HX := Aside0.mk hx
  have HB := Aside0.mk hb
  have HN := Aside0.mk hn
  have hu := Tryd.underlying30
  clear hT hx hb hn
  go_enter Tryd.func27, Tryd.ntmps27
  go_upto_region 1 with (fail)
  by_cases h0 : many = 0
  · skip
    refine RS.wp_text [(15, .int .u64 (many : Int)), (16, .bool false), (17, .bool false), (18, undef), (19, undef), (20, undef), (21, undef), (22, undef), (23, undef), (24, undef), (25, undef), (26, undef), (27, undef), (28, undef), (29, undef), (30, undef), (31, undef), (32, undef), (33, undef), (34, undef), (35, .bool false)] (fun w' => w' = w) (by kernel_rfl) (by kernel_rfl) rfl ?_ ?_
    · exact ⟨RS.StepOK.pure 15 (by kernel_rfl) rfl (fun w => by kernel_rfl),
        RS.StepOK.load 16 (.bool false) (by kernel_rfl) (by kernel_rfl) rfl (fun w hS => run_bin rfl (by kernel_rfl) (by kernel_rfl) (by kernel_rfl) (gtrw_f (show ¬ (0 : Int) < (many : Int) by omega) w)),
        RS.StepOK.pure 17 (by kernel_rfl) rfl (fun w => by kernel_rfl),
        RS.StepOK.off 18 (by kernel_rfl) rfl (by kernel_rfl),
        RS.StepOK.off 19 (by kernel_rfl) rfl (by kernel_rfl),
        RS.StepOK.off 20 (by kernel_rfl) rfl (by kernel_rfl),
        RS.StepOK.off 21 (by kernel_rfl) rfl (by kernel_rfl),
        RS.StepOK.off 22 (by kernel_rfl) rfl (by kernel_rfl),
        RS.StepOK.off 23 (by kernel_rfl) rfl (by kernel_rfl),
        RS.StepOK.off 24 (by kernel_rfl) rfl (by kernel_rfl),
        RS.StepOK.off 25 (by kernel_rfl) rfl (by kernel_rfl),
        RS.StepOK.off 26 (by kernel_rfl) rfl (by kernel_rfl),
        RS.StepOK.off 27 (by kernel_rfl) rfl (by kernel_rfl),
        RS.StepOK.off 28 (by kernel_rfl) rfl (by kernel_rfl),
        RS.StepOK.off 29 (by kernel_rfl) rfl (by kernel_rfl),
        RS.StepOK.off 30 (by kernel_rfl) rfl (by kernel_rfl),
        RS.StepOK.off 31 (by kernel_rfl) rfl (by kernel_rfl),
        RS.StepOK.off 32 (by kernel_rfl) rfl (by kernel_rfl),
        RS.StepOK.off 33 (by kernel_rfl) rfl (by kernel_rfl),
        RS.StepOK.off 34 (by kernel_rfl) rfl (by kernel_rfl),
        RS.StepOK.pure 35 (by kernel_rfl) rfl (fun w => by kernel_rfl), trivial⟩
    rintro w2 hS
    obtain rfl := hS
    (try simp only [RS.sets, List.setIfInBounds_toArray, List.set_cons_zero, List.set_cons_succ])
    (try simp only [wrap_n hn2])
    go_wp2_with fail
    go_loopw [10, 37] (fun v t wr => ∃ i : Nat, i ≤ many ∧ t = .int .u64 (i : Int) ∧ Aside0 (Kd.R k30 30 wr w2.heap.size (fun _ => True) v (segsP xs fr i)) ∧ Below w2.heap.size w2 wr) (fun _ t _ => ((many : Int) - intOf t).toNat)
    case atStart => exact ⟨0, by omega, rfl, ⟨Kd.R_nil _ _ _ _ _⟩, Below.refl _ _⟩
    case round =>
      obtain ⟨i, hi, rfl, HK, hbl⟩ := hrel
      have HBL := Aside0.mk hbl
      clear hbl
      by_cases hin : i < many
      · exact absurd hin (by omega)
      · have hie : many = i := by omega
        subst hie
        have e1 : decide ((many : Int) < (many : Int)) = false := decide_eq_false (by omega)
        go_wp2
        go_ret2
        exact ⟨_, rfl, HK.out, HBL.out⟩
  · skip
    refine RS.wp_text [(15, .int .u64 (many : Int)), (16, .bool true), (17, .bool true), (18, .int .u64 (fr : Int)), (19, .slice (some ad) n c), (20, .int .i64 (n : Int)), (21, .int .u64 (IntKind.u64.wrap (n : Int))), (22, .bool false), (23, .bool false), (24, .int .i64 56), (25, .int .u64 56), (26, .int .u64 (many : Int)), (27, .int .u64 (56 * (many : Int))), (28, .slice (some ad) n c), (29, .int .i64 (n : Int)), (30, .int .u64 (IntKind.u64.wrap (n : Int))), (31, .int .u64 (fr : Int)), (32, .int .u64 (IntKind.u64.wrap (n : Int) - (fr : Int))), (33, .bool false), (34, .bool false), (35, .bool false)] (fun w' => w' = w) (by kernel_rfl) (by kernel_rfl) rfl ?_ ?_
    · exact ⟨RS.StepOK.pure 15 (by kernel_rfl) rfl (fun w => by kernel_rfl),
        RS.StepOK.load 16 (.bool true) (by kernel_rfl) (by kernel_rfl) rfl (fun w hS => run_bin rfl (by kernel_rfl) (by kernel_rfl) (by kernel_rfl) (gtrw_t (show (0 : Int) < (many : Int) by omega) w)),
        RS.StepOK.pure 17 (by kernel_rfl) rfl (fun w => by kernel_rfl),
        RS.StepOK.pure 18 (by kernel_rfl) rfl (fun w => by kernel_rfl),
        RS.StepOK.pure 19 (by kernel_rfl) rfl (fun w => by kernel_rfl),
        RS.StepOK.pure 20 (by kernel_rfl) rfl (fun w => by kernel_rfl),
        RS.StepOK.pure 21 (by kernel_rfl) rfl (fun w => by kernel_rfl),
        RS.StepOK.load 22 (.bool false) (by kernel_rfl) (by kernel_rfl) rfl (fun w hS => run_bin rfl (by kernel_rfl) (by kernel_rfl) (by kernel_rfl) (gtrw_f (show ¬ IntKind.u64.wrap (n : Int) < (fr : Int) by rw [wrap_n hn2]; omega) w)),
        RS.StepOK.pure 23 (by kernel_rfl) rfl (fun w => by kernel_rfl),
        RS.StepOK.pure 24 (by kernel_rfl) rfl (fun w => by kernel_rfl),
        RS.StepOK.pure 25 (by kernel_rfl) rfl (fun w => by kernel_rfl),
        RS.StepOK.pure 26 (by kernel_rfl) rfl (fun w => by kernel_rfl),
        RS.StepOK.load 27 (.int .u64 (56 * (many : Int))) (by kernel_rfl) (by kernel_rfl) rfl (fun w hS => run_bin rfl (by kernel_rfl) (by kernel_rfl) (by kernel_rfl) (mul_w (x := 56) (y := (many : Int)) (by omega) (by omega) w)),
        RS.StepOK.pure 28 (by kernel_rfl) rfl (fun w => by kernel_rfl),
        RS.StepOK.pure 29 (by kernel_rfl) rfl (fun w => by kernel_rfl),
        RS.StepOK.pure 30 (by kernel_rfl) rfl (fun w => by kernel_rfl),
        RS.StepOK.pure 31 (by kernel_rfl) rfl (fun w => by kernel_rfl),
        RS.StepOK.load 32 (.int .u64 (IntKind.u64.wrap (n : Int) - (fr : Int))) (by kernel_rfl) (by kernel_rfl) rfl (fun w hS => run_bin rfl (by kernel_rfl) (by kernel_rfl) (by kernel_rfl) (sub_w (x := IntKind.u64.wrap (n : Int)) (y := (fr : Int)) (by rw [wrap_n hn2]; omega) (by rw [wrap_n hn2]; omega) w)),
        RS.StepOK.load 33 (.bool false) (by kernel_rfl) (by kernel_rfl) rfl (fun w hS => run_bin rfl (by kernel_rfl) (by kernel_rfl) (by kernel_rfl) (gtrw_f (show ¬ IntKind.u64.wrap (n : Int) - (fr : Int) < 56 * (many : Int) by rw [wrap_n hn2]; omega) w)),
        RS.StepOK.pure 34 (by kernel_rfl) rfl (fun w => by kernel_rfl),
        RS.StepOK.pure 35 (by kernel_rfl) rfl (fun w => by kernel_rfl), trivial⟩
    rintro w2 hS
    obtain rfl := hS
    (try simp only [RS.sets, List.setIfInBounds_toArray, List.set_cons_zero, List.set_cons_succ])
    (try simp only [wrap_n hn2])
    go_wp2_with fail
    go_loopw [10, 37] (fun v t wr => ∃ i : Nat, i ≤ many ∧ t = .int .u64 (i : Int) ∧ Aside0 (Kd.R k30 30 wr w2.heap.size (fun _ => True) v (segsP xs fr i)) ∧ Below w2.heap.size w2 wr) (fun _ t _ => ((many : Int) - intOf t).toNat)
    case atStart => exact ⟨0, by omega, rfl, ⟨Kd.R_nil _ _ _ _ _⟩, Below.refl _ _⟩
    case round =>
      obtain ⟨i, hi, rfl, HK, hbl⟩ := hrel
      have HBL := Aside0.mk hbl
      clear hbl
      by_cases hin : i < many
      · have hk : fr + 56 * i < n := by omega
        have e1 : decide ((i : Int) < (many : Int)) = true := decide_eq_true (by omega)
        have hw1 : IntKind.u64.wrap (56 * (i : Int)) = 56 * (i : Int) := wrapU (by omega) (by omega)
        have hw2 : IntKind.u64.wrap ((fr : Int) + 56 * (i : Int)) = (fr : Int) + 56 * (i : Int) := wrapU (by omega) (by omega)
        have hsl := fun W => slice_rest ad n c (fr + 56 * i) ((fr : Int) + 56 * (i : Int)) (by omega) hk hc W
        have HK2 := Aside0.mk hk
        clear hk
        go_upto_region 7 with (go_at_call 20; refine (segment_at ad n c xs (fr + 56 * i) _ (HT.out.below HBL.out) (fun j hj => pw_cell_below HBL.out (HX.out j hj)) HB.out HN.out hc (by omega) (by omega)).mono ?_; rintro e w3 ⟨rfl, hb3⟩)
        clear hw1 hw2 hsl
        have hb4 : Below w3.heap.size w3 (w3.alloc (.cells #[.int .u32 (segV (xs.drop (fr + 56 * i))).f0, .int .u32 (segV (xs.drop (fr + 56 * i))).f1, .int .u64 (segV (xs.drop (fr + 56 * i))).f2, .int .u64 (segV (xs.drop (fr + 56 * i))).f3, .int .u64 (segV (xs.drop (fr + 56 * i))).f4, .int .u64 (segV (xs.drop (fr + 56 * i))).f5, .int .u64 (segV (xs.drop (fr + 56 * i))).f6] 30)) := bX_ (Below.refl _ _) _
        have hbx := World.alloc_heap_new w3 (.cells #[.int .u32 (segV (xs.drop (fr + 56 * i))).f0, .int .u32 (segV (xs.drop (fr + 56 * i))).f1, .int .u64 (segV (xs.drop (fr + 56 * i))).f2, .int .u64 (segV (xs.drop (fr + 56 * i))).f3, .int .u64 (segV (xs.drop (fr + 56 * i))).f4, .int .u64 (segV (xs.drop (fr + 56 * i))).f5, .int .u64 (segV (xs.drop (fr + 56 * i))).f6] 30)
        have hsucc := segsP_succ xs fr i
        have hb34 := below_step hb3 hb4
        generalize w3.alloc (.cells #[.int .u32 (segV (xs.drop (fr + 56 * i))).f0, .int .u32 (segV (xs.drop (fr + 56 * i))).f1, .int .u64 (segV (xs.drop (fr + 56 * i))).f2, .int .u64 (segV (xs.drop (fr + 56 * i))).f3, .int .u64 (segV (xs.drop (fr + 56 * i))).f4, .int .u64 (segV (xs.drop (fr + 56 * i))).f5, .int .u64 (segV (xs.drop (fr + 56 * i))).f6] 30) = w4 at *
        generalize w3.heap.size = g4 at *
        generalize segV (xs.drop (fr + 56 * i)) = y at *
        have HBX := Aside0.mk hbx
        have HSU := Aside0.mk hsucc
        have HK4 := Aside0.mk (Kd.R_below HK.out hb34)
        have HB4 := Aside0.mk (below_step HBL.out hb34)
        clear hbx hsucc hb3 hb4 hb34 HK HBL
        have q0 : w4.cell? ⟨g4, 0, none⟩ = some (.int .u32 y.f0) := (bC_ HBX.out 0).trans rfl
        have q1 : w4.cell? ⟨g4, 1, none⟩ = some (.int .u32 y.f1) := (bC_ HBX.out 1).trans rfl
        have q2 : w4.cell? ⟨g4, 2, none⟩ = some (.int .u64 y.f2) := (bC_ HBX.out 2).trans rfl
        have q3 : w4.cell? ⟨g4, 3, none⟩ = some (.int .u64 y.f3) := (bC_ HBX.out 3).trans rfl
        have q4 : w4.cell? ⟨g4, 4, none⟩ = some (.int .u64 y.f4) := (bC_ HBX.out 4).trans rfl
        have q5 : w4.cell? ⟨g4, 5, none⟩ = some (.int .u64 y.f5) := (bC_ HBX.out 5).trans rfl
        have q6 : w4.cell? ⟨g4, 6, none⟩ = some (.int .u64 y.f6) := (bC_ HBX.out 6).trans rfl
        have hlen : (segsP xs fr i).length ≤ 65535 := by simp [segsP]; omega
        have HLE := Aside0.mk hlen
        clear hlen
        go_wp2_with (at_builtin; go_loud (refine Kd.R_append k30 (w0 := w2) w2.heap.size rfl (.tmp 53) (.tmp 55) 24 30 (.agg #[(.int .u32 0), (.int .u32 0), (.int .u64 0), (.int .u64 0), (.int .u64 0), (.int .u64 0), (.int .u64 0)]) 48 rfl Tryd.underlying24 info30 rfl (by decide) (by omega) u10 (segsP xs fr i) y [.int .u32 y.f0, .int .u32 y.f1, .int .u64 y.f2, .int .u64 y.f3, .int .u64 y.f4, .int .u64 y.f5, .int .u64 y.f6] (fun _ => True) (fun _ => False) rfl (by first | (go_simp; done) | (go_simp; rfl)) ?aP (fun _ hk => hk.elim) (fun _ _ => trivial) HK4.out HB4.out HB4.out.size ?aL ?_); (case aP => exact k30_mkM _ _ _ y); (case aL => have := HLE.out; omega); intro v1 w5 hr5 hb5 hg5 hat5)
        clear q0 q1 q2 q3 q4 q5 q6
        go_roundw
        case rel => exact ⟨i + 1, by omega, by go_num, ⟨by rw [HSU.out]; exact hr5⟩, hb5⟩
        case measure => simp [intOf]; omega
      · have hie : many = i := by omega
        subst hie
        have e1 : decide ((many : Int) < (many : Int)) = false := decide_eq_false (by omega)
        go_wp2
        go_ret2
        exact ⟨_, rfl, HK.out, HBL.out⟩
set_option maxHeartbeats 8000000 in
set_option maxRecDepth 100000 in
theorem each_section_bad (A : Option Addr) (n c : Nat) (fr many : Nat) (w : World) (h0 : 0 < many) (hm : many ≤ 65535) (hn2 : n ≤ 131072) (h : n < fr ∨ n < fr + 64 * many) :
    Calls Tryd.prog 28 #[.slice A n c, .int .u64 (fr : Int), .int .u64 (many : Int), .int .i64 64, .func (.func 22) #[] #[]] w fun e w' => e = .returned (.tuple #[.slice none 0 0, .int .i64 33]) ∧ Below w.heap.size w w' := by
  go_enter Tryd.func28, Tryd.ntmps28
  go_upto_region 1 with (fail)
  by_cases hc : n < fr
  · skip
    refine RS.wp_text [(15, .int .u64 (many : Int)), (16, .bool true), (17, .bool true), (18, .int .u64 (fr : Int)), (19, .slice A n c), (20, .int .i64 (n : Int)), (21, .int .u64 (IntKind.u64.wrap (n : Int))), (22, .bool true), (23, .bool true), (24, undef), (25, undef), (26, undef), (27, undef), (28, undef), (29, undef), (30, undef), (31, undef), (32, undef), (33, undef), (34, .bool true), (35, .bool true)] (fun w' => w' = w) (by kernel_rfl) (by kernel_rfl) rfl ?_ ?_
    · exact ⟨RS.StepOK.pure 15 (by kernel_rfl) rfl (fun w => by kernel_rfl),
        RS.StepOK.load 16 (.bool true) (by kernel_rfl) (by kernel_rfl) rfl (fun w hS => run_bin rfl (by kernel_rfl) (by kernel_rfl) (by kernel_rfl) (gtrw_t (show (0 : Int) < (many : Int) by omega) w)),
        RS.StepOK.pure 17 (by kernel_rfl) rfl (fun w => by kernel_rfl),
        RS.StepOK.pure 18 (by kernel_rfl) rfl (fun w => by kernel_rfl),
        RS.StepOK.pure 19 (by kernel_rfl) rfl (fun w => by kernel_rfl),
        RS.StepOK.pure 20 (by kernel_rfl) rfl (fun w => by kernel_rfl),
        RS.StepOK.pure 21 (by kernel_rfl) rfl (fun w => by kernel_rfl),
        RS.StepOK.load 22 (.bool true) (by kernel_rfl) (by kernel_rfl) rfl (fun w hS => run_bin rfl (by kernel_rfl) (by kernel_rfl) (by kernel_rfl) (gtrw_t (show IntKind.u64.wrap (n : Int) < (fr : Int) by rw [wrap_n hn2]; omega) w)),
        RS.StepOK.pure 23 (by kernel_rfl) rfl (fun w => by kernel_rfl),
        RS.StepOK.off 24 (by kernel_rfl) rfl (by kernel_rfl),
        RS.StepOK.off 25 (by kernel_rfl) rfl (by kernel_rfl),
        RS.StepOK.off 26 (by kernel_rfl) rfl (by kernel_rfl),
        RS.StepOK.off 27 (by kernel_rfl) rfl (by kernel_rfl),
        RS.StepOK.off 28 (by kernel_rfl) rfl (by kernel_rfl),
        RS.StepOK.off 29 (by kernel_rfl) rfl (by kernel_rfl),
        RS.StepOK.off 30 (by kernel_rfl) rfl (by kernel_rfl),
        RS.StepOK.off 31 (by kernel_rfl) rfl (by kernel_rfl),
        RS.StepOK.off 32 (by kernel_rfl) rfl (by kernel_rfl),
        RS.StepOK.off 33 (by kernel_rfl) rfl (by kernel_rfl),
        RS.StepOK.pure 34 (by kernel_rfl) rfl (fun w => by kernel_rfl),
        RS.StepOK.pure 35 (by kernel_rfl) rfl (fun w => by kernel_rfl), trivial⟩
    rintro w2 hS
    obtain rfl := hS
    (try simp only [RS.sets, List.setIfInBounds_toArray, List.set_cons_zero, List.set_cons_succ])
    (try simp only [wrap_n hn2])
    go_wp2_with fail
    go_ret2
    exact ⟨rfl, Below.refl _ _⟩
  · skip
    refine RS.wp_text [(15, .int .u64 (many : Int)), (16, .bool true), (17, .bool true), (18, .int .u64 (fr : Int)), (19, .slice A n c), (20, .int .i64 (n : Int)), (21, .int .u64 (IntKind.u64.wrap (n : Int))), (22, .bool false), (23, .bool false), (24, .int .i64 64), (25, .int .u64 64), (26, .int .u64 (many : Int)), (27, .int .u64 (64 * (many : Int))), (28, .slice A n c), (29, .int .i64 (n : Int)), (30, .int .u64 (IntKind.u64.wrap (n : Int))), (31, .int .u64 (fr : Int)), (32, .int .u64 (IntKind.u64.wrap (n : Int) - (fr : Int))), (33, .bool true), (34, .bool true), (35, .bool true)] (fun w' => w' = w) (by kernel_rfl) (by kernel_rfl) rfl ?_ ?_
    · exact ⟨RS.StepOK.pure 15 (by kernel_rfl) rfl (fun w => by kernel_rfl),
        RS.StepOK.load 16 (.bool true) (by kernel_rfl) (by kernel_rfl) rfl (fun w hS => run_bin rfl (by kernel_rfl) (by kernel_rfl) (by kernel_rfl) (gtrw_t (show (0 : Int) < (many : Int) by omega) w)),
        RS.StepOK.pure 17 (by kernel_rfl) rfl (fun w => by kernel_rfl),
        RS.StepOK.pure 18 (by kernel_rfl) rfl (fun w => by kernel_rfl),
        RS.StepOK.pure 19 (by kernel_rfl) rfl (fun w => by kernel_rfl),
        RS.StepOK.pure 20 (by kernel_rfl) rfl (fun w => by kernel_rfl),
        RS.StepOK.pure 21 (by kernel_rfl) rfl (fun w => by kernel_rfl),
        RS.StepOK.load 22 (.bool false) (by kernel_rfl) (by kernel_rfl) rfl (fun w hS => run_bin rfl (by kernel_rfl) (by kernel_rfl) (by kernel_rfl) (gtrw_f (show ¬ IntKind.u64.wrap (n : Int) < (fr : Int) by rw [wrap_n hn2]; omega) w)),
        RS.StepOK.pure 23 (by kernel_rfl) rfl (fun w => by kernel_rfl),
        RS.StepOK.pure 24 (by kernel_rfl) rfl (fun w => by kernel_rfl),
        RS.StepOK.pure 25 (by kernel_rfl) rfl (fun w => by kernel_rfl),
        RS.StepOK.pure 26 (by kernel_rfl) rfl (fun w => by kernel_rfl),
        RS.StepOK.load 27 (.int .u64 (64 * (many : Int))) (by kernel_rfl) (by kernel_rfl) rfl (fun w hS => run_bin rfl (by kernel_rfl) (by kernel_rfl) (by kernel_rfl) (mul_w (x := 64) (y := (many : Int)) (by omega) (by omega) w)),
        RS.StepOK.pure 28 (by kernel_rfl) rfl (fun w => by kernel_rfl),
        RS.StepOK.pure 29 (by kernel_rfl) rfl (fun w => by kernel_rfl),
        RS.StepOK.pure 30 (by kernel_rfl) rfl (fun w => by kernel_rfl),
        RS.StepOK.pure 31 (by kernel_rfl) rfl (fun w => by kernel_rfl),
        RS.StepOK.load 32 (.int .u64 (IntKind.u64.wrap (n : Int) - (fr : Int))) (by kernel_rfl) (by kernel_rfl) rfl (fun w hS => run_bin rfl (by kernel_rfl) (by kernel_rfl) (by kernel_rfl) (sub_w (x := IntKind.u64.wrap (n : Int)) (y := (fr : Int)) (by rw [wrap_n hn2]; omega) (by rw [wrap_n hn2]; omega) w)),
        RS.StepOK.load 33 (.bool true) (by kernel_rfl) (by kernel_rfl) rfl (fun w hS => run_bin rfl (by kernel_rfl) (by kernel_rfl) (by kernel_rfl) (gtrw_t (show IntKind.u64.wrap (n : Int) - (fr : Int) < 64 * (many : Int) by rw [wrap_n hn2]; omega) w)),
        RS.StepOK.pure 34 (by kernel_rfl) rfl (fun w => by kernel_rfl),
        RS.StepOK.pure 35 (by kernel_rfl) rfl (fun w => by kernel_rfl), trivial⟩
    rintro w2 hS
    obtain rfl := hS
    (try simp only [RS.sets, List.setIfInBounds_toArray, List.set_cons_zero, List.set_cons_succ])
    (try simp only [wrap_n hn2])
    go_wp2_with fail
    go_ret2
    exact ⟨rfl, Below.refl _ _⟩
set_option maxHeartbeats 8000000 in
set_option maxRecDepth 100000 in
theorem each_section (ad : Addr) (n c : Nat) (fr many : Nat) (xs : List Int) (w : World) (hT : Tab w) (hx : Row8 w ad xs) (hb : BB xs) (hn : xs.length = n) (hc : n ≤ c) (hn2 : n ≤ 131072) (hm : many ≤ 65535) (h : many = 0 ∨ fr + 64 * many ≤ n) :
    Calls Tryd.prog 28 #[.slice (some ad) n c, .int .u64 (fr : Int), .int .u64 (many : Int), .int .i64 64, .func (.func 22) #[] #[]] w fun e w' => ∃ v, e = .returned (.tuple #[v, .int .i64 0]) ∧ Kd.R k32 32 w' w.heap.size (fun _ => True) v (secsP xs fr many) ∧ Below w.heap.size w w' := by
  have HT := Aside0.mk hT
  have HX := Aside0.mk hx
  have HB := Aside0.mk hb
  have HN := Aside0.mk hn
  have hu := Tryd.underlying32
  clear hT hx hb hn
  go_enter Tryd.func28, Tryd.ntmps28
  go_upto_region 1 with (fail)
  by_cases h0 : many = 0
  · skip
    refine RS.wp_text [(15, .int .u64 (many : Int)), (16, .bool false), (17, .bool false), (18, undef), (19, undef), (20, undef), (21, undef), (22, undef), (23, undef), (24, undef), (25, undef), (26, undef), (27, undef), (28, undef), (29, undef), (30, undef), (31, undef), (32, undef), (33, undef), (34, undef), (35, .bool false)] (fun w' => w' = w) (by kernel_rfl) (by kernel_rfl) rfl ?_ ?_
    · exact ⟨RS.StepOK.pure 15 (by kernel_rfl) rfl (fun w => by kernel_rfl),
        RS.StepOK.load 16 (.bool false) (by kernel_rfl) (by kernel_rfl) rfl (fun w hS => run_bin rfl (by kernel_rfl) (by kernel_rfl) (by kernel_rfl) (gtrw_f (show ¬ (0 : Int) < (many : Int) by omega) w)),
        RS.StepOK.pure 17 (by kernel_rfl) rfl (fun w => by kernel_rfl),
        RS.StepOK.off 18 (by kernel_rfl) rfl (by kernel_rfl),
        RS.StepOK.off 19 (by kernel_rfl) rfl (by kernel_rfl),
        RS.StepOK.off 20 (by kernel_rfl) rfl (by kernel_rfl),
        RS.StepOK.off 21 (by kernel_rfl) rfl (by kernel_rfl),
        RS.StepOK.off 22 (by kernel_rfl) rfl (by kernel_rfl),
        RS.StepOK.off 23 (by kernel_rfl) rfl (by kernel_rfl),
        RS.StepOK.off 24 (by kernel_rfl) rfl (by kernel_rfl),
        RS.StepOK.off 25 (by kernel_rfl) rfl (by kernel_rfl),
        RS.StepOK.off 26 (by kernel_rfl) rfl (by kernel_rfl),
        RS.StepOK.off 27 (by kernel_rfl) rfl (by kernel_rfl),
        RS.StepOK.off 28 (by kernel_rfl) rfl (by kernel_rfl),
        RS.StepOK.off 29 (by kernel_rfl) rfl (by kernel_rfl),
        RS.StepOK.off 30 (by kernel_rfl) rfl (by kernel_rfl),
        RS.StepOK.off 31 (by kernel_rfl) rfl (by kernel_rfl),
        RS.StepOK.off 32 (by kernel_rfl) rfl (by kernel_rfl),
        RS.StepOK.off 33 (by kernel_rfl) rfl (by kernel_rfl),
        RS.StepOK.off 34 (by kernel_rfl) rfl (by kernel_rfl),
        RS.StepOK.pure 35 (by kernel_rfl) rfl (fun w => by kernel_rfl), trivial⟩
    rintro w2 hS
    obtain rfl := hS
    (try simp only [RS.sets, List.setIfInBounds_toArray, List.set_cons_zero, List.set_cons_succ])
    (try simp only [wrap_n hn2])
    go_wp2_with fail
    go_loopw [10, 37] (fun v t wr => ∃ i : Nat, i ≤ many ∧ t = .int .u64 (i : Int) ∧ Aside0 (Kd.R k32 32 wr w2.heap.size (fun _ => True) v (secsP xs fr i)) ∧ Below w2.heap.size w2 wr) (fun _ t _ => ((many : Int) - intOf t).toNat)
    case atStart => exact ⟨0, by omega, rfl, ⟨Kd.R_nil _ _ _ _ _⟩, Below.refl _ _⟩
    case round =>
      obtain ⟨i, hi, rfl, HK, hbl⟩ := hrel
      have HBL := Aside0.mk hbl
      clear hbl
      by_cases hin : i < many
      · exact absurd hin (by omega)
      · have hie : many = i := by omega
        subst hie
        have e1 : decide ((many : Int) < (many : Int)) = false := decide_eq_false (by omega)
        go_wp2
        go_ret2
        exact ⟨_, rfl, HK.out, HBL.out⟩
  · skip
    refine RS.wp_text [(15, .int .u64 (many : Int)), (16, .bool true), (17, .bool true), (18, .int .u64 (fr : Int)), (19, .slice (some ad) n c), (20, .int .i64 (n : Int)), (21, .int .u64 (IntKind.u64.wrap (n : Int))), (22, .bool false), (23, .bool false), (24, .int .i64 64), (25, .int .u64 64), (26, .int .u64 (many : Int)), (27, .int .u64 (64 * (many : Int))), (28, .slice (some ad) n c), (29, .int .i64 (n : Int)), (30, .int .u64 (IntKind.u64.wrap (n : Int))), (31, .int .u64 (fr : Int)), (32, .int .u64 (IntKind.u64.wrap (n : Int) - (fr : Int))), (33, .bool false), (34, .bool false), (35, .bool false)] (fun w' => w' = w) (by kernel_rfl) (by kernel_rfl) rfl ?_ ?_
    · exact ⟨RS.StepOK.pure 15 (by kernel_rfl) rfl (fun w => by kernel_rfl),
        RS.StepOK.load 16 (.bool true) (by kernel_rfl) (by kernel_rfl) rfl (fun w hS => run_bin rfl (by kernel_rfl) (by kernel_rfl) (by kernel_rfl) (gtrw_t (show (0 : Int) < (many : Int) by omega) w)),
        RS.StepOK.pure 17 (by kernel_rfl) rfl (fun w => by kernel_rfl),
        RS.StepOK.pure 18 (by kernel_rfl) rfl (fun w => by kernel_rfl),
        RS.StepOK.pure 19 (by kernel_rfl) rfl (fun w => by kernel_rfl),
        RS.StepOK.pure 20 (by kernel_rfl) rfl (fun w => by kernel_rfl),
        RS.StepOK.pure 21 (by kernel_rfl) rfl (fun w => by kernel_rfl),
        RS.StepOK.load 22 (.bool false) (by kernel_rfl) (by kernel_rfl) rfl (fun w hS => run_bin rfl (by kernel_rfl) (by kernel_rfl) (by kernel_rfl) (gtrw_f (show ¬ IntKind.u64.wrap (n : Int) < (fr : Int) by rw [wrap_n hn2]; omega) w)),
        RS.StepOK.pure 23 (by kernel_rfl) rfl (fun w => by kernel_rfl),
        RS.StepOK.pure 24 (by kernel_rfl) rfl (fun w => by kernel_rfl),
        RS.StepOK.pure 25 (by kernel_rfl) rfl (fun w => by kernel_rfl),
        RS.StepOK.pure 26 (by kernel_rfl) rfl (fun w => by kernel_rfl),
        RS.StepOK.load 27 (.int .u64 (64 * (many : Int))) (by kernel_rfl) (by kernel_rfl) rfl (fun w hS => run_bin rfl (by kernel_rfl) (by kernel_rfl) (by kernel_rfl) (mul_w (x := 64) (y := (many : Int)) (by omega) (by omega) w)),
        RS.StepOK.pure 28 (by kernel_rfl) rfl (fun w => by kernel_rfl),
        RS.StepOK.pure 29 (by kernel_rfl) rfl (fun w => by kernel_rfl),
        RS.StepOK.pure 30 (by kernel_rfl) rfl (fun w => by kernel_rfl),
        RS.StepOK.pure 31 (by kernel_rfl) rfl (fun w => by kernel_rfl),
        RS.StepOK.load 32 (.int .u64 (IntKind.u64.wrap (n : Int) - (fr : Int))) (by kernel_rfl) (by kernel_rfl) rfl (fun w hS => run_bin rfl (by kernel_rfl) (by kernel_rfl) (by kernel_rfl) (sub_w (x := IntKind.u64.wrap (n : Int)) (y := (fr : Int)) (by rw [wrap_n hn2]; omega) (by rw [wrap_n hn2]; omega) w)),
        RS.StepOK.load 33 (.bool false) (by kernel_rfl) (by kernel_rfl) rfl (fun w hS => run_bin rfl (by kernel_rfl) (by kernel_rfl) (by kernel_rfl) (gtrw_f (show ¬ IntKind.u64.wrap (n : Int) - (fr : Int) < 64 * (many : Int) by rw [wrap_n hn2]; omega) w)),
        RS.StepOK.pure 34 (by kernel_rfl) rfl (fun w => by kernel_rfl),
        RS.StepOK.pure 35 (by kernel_rfl) rfl (fun w => by kernel_rfl), trivial⟩
    rintro w2 hS
    obtain rfl := hS
    (try simp only [RS.sets, List.setIfInBounds_toArray, List.set_cons_zero, List.set_cons_succ])
    (try simp only [wrap_n hn2])
    go_wp2_with fail
    go_loopw [10, 37] (fun v t wr => ∃ i : Nat, i ≤ many ∧ t = .int .u64 (i : Int) ∧ Aside0 (Kd.R k32 32 wr w2.heap.size (fun _ => True) v (secsP xs fr i)) ∧ Below w2.heap.size w2 wr) (fun _ t _ => ((many : Int) - intOf t).toNat)
    case atStart => exact ⟨0, by omega, rfl, ⟨Kd.R_nil _ _ _ _ _⟩, Below.refl _ _⟩
    case round =>
      obtain ⟨i, hi, rfl, HK, hbl⟩ := hrel
      have HBL := Aside0.mk hbl
      clear hbl
      by_cases hin : i < many
      · have hk : fr + 64 * i < n := by omega
        have e1 : decide ((i : Int) < (many : Int)) = true := decide_eq_true (by omega)
        have hw1 : IntKind.u64.wrap (64 * (i : Int)) = 64 * (i : Int) := wrapU (by omega) (by omega)
        have hw2 : IntKind.u64.wrap ((fr : Int) + 64 * (i : Int)) = (fr : Int) + 64 * (i : Int) := wrapU (by omega) (by omega)
        have hsl := fun W => slice_rest ad n c (fr + 64 * i) ((fr : Int) + 64 * (i : Int)) (by omega) hk hc W
        have HK2 := Aside0.mk hk
        clear hk
        go_upto_region 7 with (go_at_call 22; refine (section_at ad n c xs (fr + 64 * i) _ (HT.out.below HBL.out) (fun j hj => pw_cell_below HBL.out (HX.out j hj)) HB.out HN.out hc (by omega) (by omega)).mono ?_; rintro e w3 ⟨rfl, hb3⟩)
        clear hw1 hw2 hsl
        have hb4 : Below w3.heap.size w3 (w3.alloc (.cells #[.int .u32 (secV (xs.drop (fr + 64 * i))).f0, .int .u64 (secV (xs.drop (fr + 64 * i))).f1, .int .u64 (secV (xs.drop (fr + 64 * i))).f2, .int .u32 (secV (xs.drop (fr + 64 * i))).f3, .int .u64 (secV (xs.drop (fr + 64 * i))).f4] 32)) := bX_ (Below.refl _ _) _
        have hbx := World.alloc_heap_new w3 (.cells #[.int .u32 (secV (xs.drop (fr + 64 * i))).f0, .int .u64 (secV (xs.drop (fr + 64 * i))).f1, .int .u64 (secV (xs.drop (fr + 64 * i))).f2, .int .u32 (secV (xs.drop (fr + 64 * i))).f3, .int .u64 (secV (xs.drop (fr + 64 * i))).f4] 32)
        have hsucc := secsP_succ xs fr i
        have hb34 := below_step hb3 hb4
        generalize w3.alloc (.cells #[.int .u32 (secV (xs.drop (fr + 64 * i))).f0, .int .u64 (secV (xs.drop (fr + 64 * i))).f1, .int .u64 (secV (xs.drop (fr + 64 * i))).f2, .int .u32 (secV (xs.drop (fr + 64 * i))).f3, .int .u64 (secV (xs.drop (fr + 64 * i))).f4] 32) = w4 at *
        generalize w3.heap.size = g4 at *
        generalize secV (xs.drop (fr + 64 * i)) = y at *
        have HBX := Aside0.mk hbx
        have HSU := Aside0.mk hsucc
        have HK4 := Aside0.mk (Kd.R_below HK.out hb34)
        have HB4 := Aside0.mk (below_step HBL.out hb34)
        clear hbx hsucc hb3 hb4 hb34 HK HBL
        have q0 : w4.cell? ⟨g4, 0, none⟩ = some (.int .u32 y.f0) := (bC_ HBX.out 0).trans rfl
        have q1 : w4.cell? ⟨g4, 1, none⟩ = some (.int .u64 y.f1) := (bC_ HBX.out 1).trans rfl
        have q2 : w4.cell? ⟨g4, 2, none⟩ = some (.int .u64 y.f2) := (bC_ HBX.out 2).trans rfl
        have q3 : w4.cell? ⟨g4, 3, none⟩ = some (.int .u32 y.f3) := (bC_ HBX.out 3).trans rfl
        have q4 : w4.cell? ⟨g4, 4, none⟩ = some (.int .u64 y.f4) := (bC_ HBX.out 4).trans rfl
        have hlen : (secsP xs fr i).length ≤ 65535 := by simp [secsP]; omega
        have HLE := Aside0.mk hlen
        clear hlen
        go_wp2_with (at_builtin; go_loud (refine Kd.R_append k32 (w0 := w2) w2.heap.size rfl (.tmp 53) (.tmp 55) 25 32 (.agg #[(.int .u32 0), (.int .u64 0), (.int .u64 0), (.int .u32 0), (.int .u64 0)]) 40 rfl Tryd.underlying25 info32 rfl (by decide) (by omega) u10 (secsP xs fr i) y [.int .u32 y.f0, .int .u64 y.f1, .int .u64 y.f2, .int .u32 y.f3, .int .u64 y.f4] (fun _ => True) (fun _ => False) rfl (by first | (go_simp; done) | (go_simp; rfl)) ?aP (fun _ hk => hk.elim) (fun _ _ => trivial) HK4.out HB4.out HB4.out.size ?aL ?_); (case aP => exact k32_mkM _ _ _ y); (case aL => have := HLE.out; omega); intro v1 w5 hr5 hb5 hg5 hat5)
        clear q0 q1 q2 q3 q4
        go_roundw
        case rel => exact ⟨i + 1, by omega, by go_num, ⟨by rw [HSU.out]; exact hr5⟩, hb5⟩
        case measure => simp [intOf]; omega
      · have hie : many = i := by omega
        subst hie
        have e1 : decide ((many : Int) < (many : Int)) = false := decide_eq_false (by omega)
        go_wp2
        go_ret2
        exact ⟨_, rfl, HK.out, HBL.out⟩
end Go.Proofs.YtopldeeojehklaaDoor.B
