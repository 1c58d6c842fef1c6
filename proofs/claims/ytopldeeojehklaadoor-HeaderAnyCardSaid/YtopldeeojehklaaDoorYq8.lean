/- header.right: are all numbers such as they must be? -/
import Derived.Test.YtopldeeojehklaaDoorYq7
import Derived.Deep.QuietTactic
import Derived.BigQuiet
namespace Go.Proofs.YtopldeeojehklaaDoor.B
open Go.RowKit Go.Proofs.YtopldeeojehklaaDoorW.PrintWords Go.Proofs.YtopldeeojehklaaDoorW.PrintMore Go.RF
set_option linter.unusedVariables false
set_option linter.unusedSimpArgs false
attribute [local go_sem] Oper.semAt_some
attribute [local go_sem] max2_int min2_int max_two min_two
def right0 (f3 f4 f5 f6 : Int) : Bool := decide (f3 ≤ 16) && (decide (f4 ≤ 32) && ((f3 == 0 || f5 == 56) && (f4 == 0 || f6 == 64)))
def mustOk (xs : List Int) : Nat → Bool
  | 0 => true
  | i + 1 => mustOk xs i && (fieldN xs ((mustF.getD i (0, 0, 0)).1, (mustF.getD i (0, 0, 0)).2.1) == (mustF.getD i (0, 0, 0)).2.2)
theorem mustOk_false {xs : List Int} {r : Bool} {i j : Nat} (h : (r && mustOk xs i) = false) (hij : i ≤ j) : (r && mustOk xs j) = false := by
  induction j with
  | zero => rwa [show i = 0 by omega] at h
  | succ j ih =>
    rcases Nat.lt_or_ge j i with h1 | h1
    · rwa [show i = j + 1 by omega] at h
    · have := ih h1
      unfold mustOk
      rw [← Bool.and_assoc, this]
      rfl
theorem leqw_t {x y : Int} (h : x ≤ y) (w : World) : (binOp .leq 23 (.int .u64 x) (.int .u64 y)).run Tryd.prog w = .ok (.bool true) w := by simp [binOp, Op.intCmp]; omega
theorem leqw_f {x y : Int} (h : ¬ x ≤ y) (w : World) : (binOp .leq 23 (.int .u64 x) (.int .u64 y)).run Tryd.prog w = .ok (.bool false) w := by simp [binOp, Op.intCmp]; omega
theorem eqlw_t {x y : Int} (h : x = y) (w : World) : (binOp .eql 23 (.int .u64 x) (.int .u64 y)).run Tryd.prog w = .ok (.bool true) w := by simp [binOp, Op.intCmp, h]
theorem eqlw_f {x y : Int} (h : ¬ x = y) (w : World) : (binOp .eql 23 (.int .u64 x) (.int .u64 y)).run Tryd.prog w = .ok (.bool false) w := by simp [binOp, Op.intCmp, h]
theorem below_drewN {B : Nat} {w w1 : World} (h : Below B w w1) (n : Nat) : Below B w (w1.drewN n) := bW_ h n
def R0S (gq : Nat) (f3 f4 f5 f6 : Int) (w0 w : World) : Prop := w = w0 ∧ w0.cell? ⟨gq, 3, none⟩ = some (.int .u64 f3) ∧ w0.cell? ⟨gq, 4, none⟩ = some (.int .u64 f4) ∧ w0.cell? ⟨gq, 5, none⟩ = some (.int .u64 f5) ∧ w0.cell? ⟨gq, 6, none⟩ = some (.int .u64 f6)
set_option maxHeartbeats 8000000 in
set_option maxRecDepth 100000 in
theorem right_calls (ad : Addr) (c n gq cq : Nat) (xs : List Int) (f3 f4 f5 f6 : Int) (w : World) (hT : Tab w) (hx : Row8 w ad xs) (hb : BB xs) (hn : xs.length = n) (hc : n ≤ c) (hm : 64 ≤ n)
    (hX : w.cell? ⟨gq, 3, none⟩ = some (.int .u64 f3) ∧ w.cell? ⟨gq, 4, none⟩ = some (.int .u64 f4) ∧ w.cell? ⟨gq, 5, none⟩ = some (.int .u64 f5) ∧ w.cell? ⟨gq, 6, none⟩ = some (.int .u64 f6)) :
    Calls Tryd.prog 26 #[.slice (some ad) n c, .slice (some ⟨gq, 0, none⟩) 7 cq] w fun e w' => e = .returned (.bool (right0 f3 f4 f5 f6 && mustOk xs 8)) ∧ Below w.heap.size w w' := by
  have HT := Aside0.mk hT
  have HX := Aside0.mk hX
  have HRO := Aside0.mk hx
  have HB := Aside0.mk hb
  have HN := Aside0.mk hn
  clear hT hX hx hb hn
  go_enter Tryd.func26, Tryd.ntmps26
  go_wp2_with fail
  go_step3
  go_upto_region 1 with (fail)
  go_cut [4] from 7 to 40 (fun v4 wc => v4 = .bool (right0 f3 f4 f5 f6) ∧ wc = w)
  case first =>
    by_cases hA : f3 ≤ 16
    · by_cases hB : f4 ≤ 32
      · by_cases hC : f3 = 0
        · by_cases hE : f4 = 0
          · skip
            have HR0 : Aside0 (right0 f3 f4 f5 f6 = true) := ⟨by unfold right0; simp [hA, hB, hC, hE]⟩
            refine RS.wp_text [(7, .slice (some ⟨gq, 0, none⟩) 7 cq), (8, .pointer (some ⟨gq, 3, none⟩)), (9, .int .u64 f3), (10, .bool true), (11, .bool true), (12, .slice (some ⟨gq, 0, none⟩) 7 cq), (13, .pointer (some ⟨gq, 4, none⟩)), (14, .int .u64 f4), (15, .bool true), (16, .bool true), (17, .bool true), (18, .slice (some ⟨gq, 0, none⟩) 7 cq), (19, .pointer (some ⟨gq, 3, none⟩)), (20, .int .u64 f3), (21, .bool true), (22, .bool true), (23, undef), (24, undef), (25, undef), (26, undef), (27, .bool true), (28, .bool true), (29, .bool true), (30, .slice (some ⟨gq, 0, none⟩) 7 cq), (31, .pointer (some ⟨gq, 4, none⟩)), (32, .int .u64 f4), (33, .bool true), (34, .bool true), (35, undef), (36, undef), (37, undef), (38, undef), (39, .bool true), (40, .bool true), (4, .bool true)] (R0S gq f3 f4 f5 f6 w) (by kernel_rfl) (by kernel_rfl) ⟨rfl, HX.out⟩ ?_ ?_
            · exact ⟨RS.StepOK.pure 7 (by kernel_rfl) rfl (fun w => by kernel_rfl),
                RS.StepOK.load 8 (.pointer (some ⟨gq, 3, none⟩)) (by kernel_rfl) (by kernel_rfl) rfl (fun w hS => run_indexAddr rfl (by kernel_rfl) (by kernel_rfl) (index_row gq 7 cq 3 (by decide) w)),
                RS.StepOK.load 9 (.int .u64 f3) (by kernel_rfl) (by kernel_rfl) rfl (fun w hS => by rw [hS.1]; exact run_load rfl (by kernel_rfl) (load_cell (k := .u64) Tryd.underlying23 hS.2.1)),
                RS.StepOK.load 10 (.bool true) (by kernel_rfl) (by kernel_rfl) rfl (fun w hS => run_bin rfl (by kernel_rfl) (by kernel_rfl) (by kernel_rfl) (leqw_t hA w)),
                RS.StepOK.pure 11 (by kernel_rfl) rfl (fun w => by kernel_rfl),
                RS.StepOK.pure 12 (by kernel_rfl) rfl (fun w => by kernel_rfl),
                RS.StepOK.load 13 (.pointer (some ⟨gq, 4, none⟩)) (by kernel_rfl) (by kernel_rfl) rfl (fun w hS => run_indexAddr rfl (by kernel_rfl) (by kernel_rfl) (index_row gq 7 cq 4 (by decide) w)),
                RS.StepOK.load 14 (.int .u64 f4) (by kernel_rfl) (by kernel_rfl) rfl (fun w hS => by rw [hS.1]; exact run_load rfl (by kernel_rfl) (load_cell (k := .u64) Tryd.underlying23 hS.2.2.1)),
                RS.StepOK.load 15 (.bool true) (by kernel_rfl) (by kernel_rfl) rfl (fun w hS => run_bin rfl (by kernel_rfl) (by kernel_rfl) (by kernel_rfl) (leqw_t hB w)),
                RS.StepOK.pure 16 (by kernel_rfl) rfl (fun w => by kernel_rfl),
                RS.StepOK.pure 17 (by kernel_rfl) rfl (fun w => by kernel_rfl),
                RS.StepOK.pure 18 (by kernel_rfl) rfl (fun w => by kernel_rfl),
                RS.StepOK.load 19 (.pointer (some ⟨gq, 3, none⟩)) (by kernel_rfl) (by kernel_rfl) rfl (fun w hS => run_indexAddr rfl (by kernel_rfl) (by kernel_rfl) (index_row gq 7 cq 3 (by decide) w)),
                RS.StepOK.load 20 (.int .u64 f3) (by kernel_rfl) (by kernel_rfl) rfl (fun w hS => by rw [hS.1]; exact run_load rfl (by kernel_rfl) (load_cell (k := .u64) Tryd.underlying23 hS.2.1)),
                RS.StepOK.load 21 (.bool true) (by kernel_rfl) (by kernel_rfl) rfl (fun w hS => run_bin rfl (by kernel_rfl) (by kernel_rfl) (by kernel_rfl) (eqlw_t hC w)),
                RS.StepOK.pure 22 (by kernel_rfl) rfl (fun w => by kernel_rfl),
                RS.StepOK.off 23 (by kernel_rfl) rfl (by kernel_rfl),
                RS.StepOK.off 24 (by kernel_rfl) rfl (by kernel_rfl),
                RS.StepOK.off 25 (by kernel_rfl) rfl (by kernel_rfl),
                RS.StepOK.off 26 (by kernel_rfl) rfl (by kernel_rfl),
                RS.StepOK.pure 27 (by kernel_rfl) rfl (fun w => by kernel_rfl),
                RS.StepOK.pure 28 (by kernel_rfl) rfl (fun w => by kernel_rfl),
                RS.StepOK.pure 29 (by kernel_rfl) rfl (fun w => by kernel_rfl),
                RS.StepOK.pure 30 (by kernel_rfl) rfl (fun w => by kernel_rfl),
                RS.StepOK.load 31 (.pointer (some ⟨gq, 4, none⟩)) (by kernel_rfl) (by kernel_rfl) rfl (fun w hS => run_indexAddr rfl (by kernel_rfl) (by kernel_rfl) (index_row gq 7 cq 4 (by decide) w)),
                RS.StepOK.load 32 (.int .u64 f4) (by kernel_rfl) (by kernel_rfl) rfl (fun w hS => by rw [hS.1]; exact run_load rfl (by kernel_rfl) (load_cell (k := .u64) Tryd.underlying23 hS.2.2.1)),
                RS.StepOK.load 33 (.bool true) (by kernel_rfl) (by kernel_rfl) rfl (fun w hS => run_bin rfl (by kernel_rfl) (by kernel_rfl) (by kernel_rfl) (eqlw_t hE w)),
                RS.StepOK.pure 34 (by kernel_rfl) rfl (fun w => by kernel_rfl),
                RS.StepOK.off 35 (by kernel_rfl) rfl (by kernel_rfl),
                RS.StepOK.off 36 (by kernel_rfl) rfl (by kernel_rfl),
                RS.StepOK.off 37 (by kernel_rfl) rfl (by kernel_rfl),
                RS.StepOK.off 38 (by kernel_rfl) rfl (by kernel_rfl),
                RS.StepOK.pure 39 (by kernel_rfl) rfl (fun w => by kernel_rfl),
                RS.StepOK.pure 40 (by kernel_rfl) rfl (fun w => by kernel_rfl),
                RS.StepOK.pure 4 (by kernel_rfl) rfl (fun w => by kernel_rfl), trivial⟩
            rintro wc hS
            (try simp only [RS.sets, List.setIfInBounds_toArray, List.set_cons_zero, List.set_cons_succ])
            obtain rfl := hS.1
            try go_wp2_with fail
            go_meet
            exact ⟨by rw [HR0.out], rfl⟩
          · by_cases hG : f6 = 64
            · skip
              have HR0 : Aside0 (right0 f3 f4 f5 f6 = true) := ⟨by unfold right0; simp [hA, hB, hC, hE, hG]⟩
              refine RS.wp_text [(7, .slice (some ⟨gq, 0, none⟩) 7 cq), (8, .pointer (some ⟨gq, 3, none⟩)), (9, .int .u64 f3), (10, .bool true), (11, .bool true), (12, .slice (some ⟨gq, 0, none⟩) 7 cq), (13, .pointer (some ⟨gq, 4, none⟩)), (14, .int .u64 f4), (15, .bool true), (16, .bool true), (17, .bool true), (18, .slice (some ⟨gq, 0, none⟩) 7 cq), (19, .pointer (some ⟨gq, 3, none⟩)), (20, .int .u64 f3), (21, .bool true), (22, .bool true), (23, undef), (24, undef), (25, undef), (26, undef), (27, .bool true), (28, .bool true), (29, .bool true), (30, .slice (some ⟨gq, 0, none⟩) 7 cq), (31, .pointer (some ⟨gq, 4, none⟩)), (32, .int .u64 f4), (33, .bool false), (34, .bool false), (35, .slice (some ⟨gq, 0, none⟩) 7 cq), (36, .pointer (some ⟨gq, 6, none⟩)), (37, .int .u64 f6), (38, .bool true), (39, .bool true), (40, .bool true), (4, .bool true)] (R0S gq f3 f4 f5 f6 w) (by kernel_rfl) (by kernel_rfl) ⟨rfl, HX.out⟩ ?_ ?_
              · exact ⟨RS.StepOK.pure 7 (by kernel_rfl) rfl (fun w => by kernel_rfl),
                  RS.StepOK.load 8 (.pointer (some ⟨gq, 3, none⟩)) (by kernel_rfl) (by kernel_rfl) rfl (fun w hS => run_indexAddr rfl (by kernel_rfl) (by kernel_rfl) (index_row gq 7 cq 3 (by decide) w)),
                  RS.StepOK.load 9 (.int .u64 f3) (by kernel_rfl) (by kernel_rfl) rfl (fun w hS => by rw [hS.1]; exact run_load rfl (by kernel_rfl) (load_cell (k := .u64) Tryd.underlying23 hS.2.1)),
                  RS.StepOK.load 10 (.bool true) (by kernel_rfl) (by kernel_rfl) rfl (fun w hS => run_bin rfl (by kernel_rfl) (by kernel_rfl) (by kernel_rfl) (leqw_t hA w)),
                  RS.StepOK.pure 11 (by kernel_rfl) rfl (fun w => by kernel_rfl),
                  RS.StepOK.pure 12 (by kernel_rfl) rfl (fun w => by kernel_rfl),
                  RS.StepOK.load 13 (.pointer (some ⟨gq, 4, none⟩)) (by kernel_rfl) (by kernel_rfl) rfl (fun w hS => run_indexAddr rfl (by kernel_rfl) (by kernel_rfl) (index_row gq 7 cq 4 (by decide) w)),
                  RS.StepOK.load 14 (.int .u64 f4) (by kernel_rfl) (by kernel_rfl) rfl (fun w hS => by rw [hS.1]; exact run_load rfl (by kernel_rfl) (load_cell (k := .u64) Tryd.underlying23 hS.2.2.1)),
                  RS.StepOK.load 15 (.bool true) (by kernel_rfl) (by kernel_rfl) rfl (fun w hS => run_bin rfl (by kernel_rfl) (by kernel_rfl) (by kernel_rfl) (leqw_t hB w)),
                  RS.StepOK.pure 16 (by kernel_rfl) rfl (fun w => by kernel_rfl),
                  RS.StepOK.pure 17 (by kernel_rfl) rfl (fun w => by kernel_rfl),
                  RS.StepOK.pure 18 (by kernel_rfl) rfl (fun w => by kernel_rfl),
                  RS.StepOK.load 19 (.pointer (some ⟨gq, 3, none⟩)) (by kernel_rfl) (by kernel_rfl) rfl (fun w hS => run_indexAddr rfl (by kernel_rfl) (by kernel_rfl) (index_row gq 7 cq 3 (by decide) w)),
                  RS.StepOK.load 20 (.int .u64 f3) (by kernel_rfl) (by kernel_rfl) rfl (fun w hS => by rw [hS.1]; exact run_load rfl (by kernel_rfl) (load_cell (k := .u64) Tryd.underlying23 hS.2.1)),
                  RS.StepOK.load 21 (.bool true) (by kernel_rfl) (by kernel_rfl) rfl (fun w hS => run_bin rfl (by kernel_rfl) (by kernel_rfl) (by kernel_rfl) (eqlw_t hC w)),
                  RS.StepOK.pure 22 (by kernel_rfl) rfl (fun w => by kernel_rfl),
                  RS.StepOK.off 23 (by kernel_rfl) rfl (by kernel_rfl),
                  RS.StepOK.off 24 (by kernel_rfl) rfl (by kernel_rfl),
                  RS.StepOK.off 25 (by kernel_rfl) rfl (by kernel_rfl),
                  RS.StepOK.off 26 (by kernel_rfl) rfl (by kernel_rfl),
                  RS.StepOK.pure 27 (by kernel_rfl) rfl (fun w => by kernel_rfl),
                  RS.StepOK.pure 28 (by kernel_rfl) rfl (fun w => by kernel_rfl),
                  RS.StepOK.pure 29 (by kernel_rfl) rfl (fun w => by kernel_rfl),
                  RS.StepOK.pure 30 (by kernel_rfl) rfl (fun w => by kernel_rfl),
                  RS.StepOK.load 31 (.pointer (some ⟨gq, 4, none⟩)) (by kernel_rfl) (by kernel_rfl) rfl (fun w hS => run_indexAddr rfl (by kernel_rfl) (by kernel_rfl) (index_row gq 7 cq 4 (by decide) w)),
                  RS.StepOK.load 32 (.int .u64 f4) (by kernel_rfl) (by kernel_rfl) rfl (fun w hS => by rw [hS.1]; exact run_load rfl (by kernel_rfl) (load_cell (k := .u64) Tryd.underlying23 hS.2.2.1)),
                  RS.StepOK.load 33 (.bool false) (by kernel_rfl) (by kernel_rfl) rfl (fun w hS => run_bin rfl (by kernel_rfl) (by kernel_rfl) (by kernel_rfl) (eqlw_f hE w)),
                  RS.StepOK.pure 34 (by kernel_rfl) rfl (fun w => by kernel_rfl),
                  RS.StepOK.pure 35 (by kernel_rfl) rfl (fun w => by kernel_rfl),
                  RS.StepOK.load 36 (.pointer (some ⟨gq, 6, none⟩)) (by kernel_rfl) (by kernel_rfl) rfl (fun w hS => run_indexAddr rfl (by kernel_rfl) (by kernel_rfl) (index_row gq 7 cq 6 (by decide) w)),
                  RS.StepOK.load 37 (.int .u64 f6) (by kernel_rfl) (by kernel_rfl) rfl (fun w hS => by rw [hS.1]; exact run_load rfl (by kernel_rfl) (load_cell (k := .u64) Tryd.underlying23 hS.2.2.2.2)),
                  RS.StepOK.load 38 (.bool true) (by kernel_rfl) (by kernel_rfl) rfl (fun w hS => run_bin rfl (by kernel_rfl) (by kernel_rfl) (by kernel_rfl) (eqlw_t hG w)),
                  RS.StepOK.pure 39 (by kernel_rfl) rfl (fun w => by kernel_rfl),
                  RS.StepOK.pure 40 (by kernel_rfl) rfl (fun w => by kernel_rfl),
                  RS.StepOK.pure 4 (by kernel_rfl) rfl (fun w => by kernel_rfl), trivial⟩
              rintro wc hS
              (try simp only [RS.sets, List.setIfInBounds_toArray, List.set_cons_zero, List.set_cons_succ])
              obtain rfl := hS.1
              try go_wp2_with fail
              go_meet
              exact ⟨by rw [HR0.out], rfl⟩
            · skip
              have HR0 : Aside0 (right0 f3 f4 f5 f6 = false) := ⟨by unfold right0; simp [hA, hB, hC, hE, hG]⟩
              refine RS.wp_text [(7, .slice (some ⟨gq, 0, none⟩) 7 cq), (8, .pointer (some ⟨gq, 3, none⟩)), (9, .int .u64 f3), (10, .bool true), (11, .bool true), (12, .slice (some ⟨gq, 0, none⟩) 7 cq), (13, .pointer (some ⟨gq, 4, none⟩)), (14, .int .u64 f4), (15, .bool true), (16, .bool true), (17, .bool true), (18, .slice (some ⟨gq, 0, none⟩) 7 cq), (19, .pointer (some ⟨gq, 3, none⟩)), (20, .int .u64 f3), (21, .bool true), (22, .bool true), (23, undef), (24, undef), (25, undef), (26, undef), (27, .bool true), (28, .bool true), (29, .bool true), (30, .slice (some ⟨gq, 0, none⟩) 7 cq), (31, .pointer (some ⟨gq, 4, none⟩)), (32, .int .u64 f4), (33, .bool false), (34, .bool false), (35, .slice (some ⟨gq, 0, none⟩) 7 cq), (36, .pointer (some ⟨gq, 6, none⟩)), (37, .int .u64 f6), (38, .bool false), (39, .bool false), (40, .bool false), (4, .bool false)] (R0S gq f3 f4 f5 f6 w) (by kernel_rfl) (by kernel_rfl) ⟨rfl, HX.out⟩ ?_ ?_
              · exact ⟨RS.StepOK.pure 7 (by kernel_rfl) rfl (fun w => by kernel_rfl),
                  RS.StepOK.load 8 (.pointer (some ⟨gq, 3, none⟩)) (by kernel_rfl) (by kernel_rfl) rfl (fun w hS => run_indexAddr rfl (by kernel_rfl) (by kernel_rfl) (index_row gq 7 cq 3 (by decide) w)),
                  RS.StepOK.load 9 (.int .u64 f3) (by kernel_rfl) (by kernel_rfl) rfl (fun w hS => by rw [hS.1]; exact run_load rfl (by kernel_rfl) (load_cell (k := .u64) Tryd.underlying23 hS.2.1)),
                  RS.StepOK.load 10 (.bool true) (by kernel_rfl) (by kernel_rfl) rfl (fun w hS => run_bin rfl (by kernel_rfl) (by kernel_rfl) (by kernel_rfl) (leqw_t hA w)),
                  RS.StepOK.pure 11 (by kernel_rfl) rfl (fun w => by kernel_rfl),
                  RS.StepOK.pure 12 (by kernel_rfl) rfl (fun w => by kernel_rfl),
                  RS.StepOK.load 13 (.pointer (some ⟨gq, 4, none⟩)) (by kernel_rfl) (by kernel_rfl) rfl (fun w hS => run_indexAddr rfl (by kernel_rfl) (by kernel_rfl) (index_row gq 7 cq 4 (by decide) w)),
                  RS.StepOK.load 14 (.int .u64 f4) (by kernel_rfl) (by kernel_rfl) rfl (fun w hS => by rw [hS.1]; exact run_load rfl (by kernel_rfl) (load_cell (k := .u64) Tryd.underlying23 hS.2.2.1)),
                  RS.StepOK.load 15 (.bool true) (by kernel_rfl) (by kernel_rfl) rfl (fun w hS => run_bin rfl (by kernel_rfl) (by kernel_rfl) (by kernel_rfl) (leqw_t hB w)),
                  RS.StepOK.pure 16 (by kernel_rfl) rfl (fun w => by kernel_rfl),
                  RS.StepOK.pure 17 (by kernel_rfl) rfl (fun w => by kernel_rfl),
                  RS.StepOK.pure 18 (by kernel_rfl) rfl (fun w => by kernel_rfl),
                  RS.StepOK.load 19 (.pointer (some ⟨gq, 3, none⟩)) (by kernel_rfl) (by kernel_rfl) rfl (fun w hS => run_indexAddr rfl (by kernel_rfl) (by kernel_rfl) (index_row gq 7 cq 3 (by decide) w)),
                  RS.StepOK.load 20 (.int .u64 f3) (by kernel_rfl) (by kernel_rfl) rfl (fun w hS => by rw [hS.1]; exact run_load rfl (by kernel_rfl) (load_cell (k := .u64) Tryd.underlying23 hS.2.1)),
                  RS.StepOK.load 21 (.bool true) (by kernel_rfl) (by kernel_rfl) rfl (fun w hS => run_bin rfl (by kernel_rfl) (by kernel_rfl) (by kernel_rfl) (eqlw_t hC w)),
                  RS.StepOK.pure 22 (by kernel_rfl) rfl (fun w => by kernel_rfl),
                  RS.StepOK.off 23 (by kernel_rfl) rfl (by kernel_rfl),
                  RS.StepOK.off 24 (by kernel_rfl) rfl (by kernel_rfl),
                  RS.StepOK.off 25 (by kernel_rfl) rfl (by kernel_rfl),
                  RS.StepOK.off 26 (by kernel_rfl) rfl (by kernel_rfl),
                  RS.StepOK.pure 27 (by kernel_rfl) rfl (fun w => by kernel_rfl),
                  RS.StepOK.pure 28 (by kernel_rfl) rfl (fun w => by kernel_rfl),
                  RS.StepOK.pure 29 (by kernel_rfl) rfl (fun w => by kernel_rfl),
                  RS.StepOK.pure 30 (by kernel_rfl) rfl (fun w => by kernel_rfl),
                  RS.StepOK.load 31 (.pointer (some ⟨gq, 4, none⟩)) (by kernel_rfl) (by kernel_rfl) rfl (fun w hS => run_indexAddr rfl (by kernel_rfl) (by kernel_rfl) (index_row gq 7 cq 4 (by decide) w)),
                  RS.StepOK.load 32 (.int .u64 f4) (by kernel_rfl) (by kernel_rfl) rfl (fun w hS => by rw [hS.1]; exact run_load rfl (by kernel_rfl) (load_cell (k := .u64) Tryd.underlying23 hS.2.2.1)),
                  RS.StepOK.load 33 (.bool false) (by kernel_rfl) (by kernel_rfl) rfl (fun w hS => run_bin rfl (by kernel_rfl) (by kernel_rfl) (by kernel_rfl) (eqlw_f hE w)),
                  RS.StepOK.pure 34 (by kernel_rfl) rfl (fun w => by kernel_rfl),
                  RS.StepOK.pure 35 (by kernel_rfl) rfl (fun w => by kernel_rfl),
                  RS.StepOK.load 36 (.pointer (some ⟨gq, 6, none⟩)) (by kernel_rfl) (by kernel_rfl) rfl (fun w hS => run_indexAddr rfl (by kernel_rfl) (by kernel_rfl) (index_row gq 7 cq 6 (by decide) w)),
                  RS.StepOK.load 37 (.int .u64 f6) (by kernel_rfl) (by kernel_rfl) rfl (fun w hS => by rw [hS.1]; exact run_load rfl (by kernel_rfl) (load_cell (k := .u64) Tryd.underlying23 hS.2.2.2.2)),
                  RS.StepOK.load 38 (.bool false) (by kernel_rfl) (by kernel_rfl) rfl (fun w hS => run_bin rfl (by kernel_rfl) (by kernel_rfl) (by kernel_rfl) (eqlw_f hG w)),
                  RS.StepOK.pure 39 (by kernel_rfl) rfl (fun w => by kernel_rfl),
                  RS.StepOK.pure 40 (by kernel_rfl) rfl (fun w => by kernel_rfl),
                  RS.StepOK.pure 4 (by kernel_rfl) rfl (fun w => by kernel_rfl), trivial⟩
              rintro wc hS
              (try simp only [RS.sets, List.setIfInBounds_toArray, List.set_cons_zero, List.set_cons_succ])
              obtain rfl := hS.1
              try go_wp2_with fail
              go_meet
              exact ⟨by rw [HR0.out], rfl⟩
        · by_cases hD : f5 = 56
          · by_cases hE : f4 = 0
            · skip
              have HR0 : Aside0 (right0 f3 f4 f5 f6 = true) := ⟨by unfold right0; simp [hA, hB, hC, hD, hE]⟩
              refine RS.wp_text [(7, .slice (some ⟨gq, 0, none⟩) 7 cq), (8, .pointer (some ⟨gq, 3, none⟩)), (9, .int .u64 f3), (10, .bool true), (11, .bool true), (12, .slice (some ⟨gq, 0, none⟩) 7 cq), (13, .pointer (some ⟨gq, 4, none⟩)), (14, .int .u64 f4), (15, .bool true), (16, .bool true), (17, .bool true), (18, .slice (some ⟨gq, 0, none⟩) 7 cq), (19, .pointer (some ⟨gq, 3, none⟩)), (20, .int .u64 f3), (21, .bool false), (22, .bool false), (23, .slice (some ⟨gq, 0, none⟩) 7 cq), (24, .pointer (some ⟨gq, 5, none⟩)), (25, .int .u64 f5), (26, .bool true), (27, .bool true), (28, .bool true), (29, .bool true), (30, .slice (some ⟨gq, 0, none⟩) 7 cq), (31, .pointer (some ⟨gq, 4, none⟩)), (32, .int .u64 f4), (33, .bool true), (34, .bool true), (35, undef), (36, undef), (37, undef), (38, undef), (39, .bool true), (40, .bool true), (4, .bool true)] (R0S gq f3 f4 f5 f6 w) (by kernel_rfl) (by kernel_rfl) ⟨rfl, HX.out⟩ ?_ ?_
              · exact ⟨RS.StepOK.pure 7 (by kernel_rfl) rfl (fun w => by kernel_rfl),
                  RS.StepOK.load 8 (.pointer (some ⟨gq, 3, none⟩)) (by kernel_rfl) (by kernel_rfl) rfl (fun w hS => run_indexAddr rfl (by kernel_rfl) (by kernel_rfl) (index_row gq 7 cq 3 (by decide) w)),
                  RS.StepOK.load 9 (.int .u64 f3) (by kernel_rfl) (by kernel_rfl) rfl (fun w hS => by rw [hS.1]; exact run_load rfl (by kernel_rfl) (load_cell (k := .u64) Tryd.underlying23 hS.2.1)),
                  RS.StepOK.load 10 (.bool true) (by kernel_rfl) (by kernel_rfl) rfl (fun w hS => run_bin rfl (by kernel_rfl) (by kernel_rfl) (by kernel_rfl) (leqw_t hA w)),
                  RS.StepOK.pure 11 (by kernel_rfl) rfl (fun w => by kernel_rfl),
                  RS.StepOK.pure 12 (by kernel_rfl) rfl (fun w => by kernel_rfl),
                  RS.StepOK.load 13 (.pointer (some ⟨gq, 4, none⟩)) (by kernel_rfl) (by kernel_rfl) rfl (fun w hS => run_indexAddr rfl (by kernel_rfl) (by kernel_rfl) (index_row gq 7 cq 4 (by decide) w)),
                  RS.StepOK.load 14 (.int .u64 f4) (by kernel_rfl) (by kernel_rfl) rfl (fun w hS => by rw [hS.1]; exact run_load rfl (by kernel_rfl) (load_cell (k := .u64) Tryd.underlying23 hS.2.2.1)),
                  RS.StepOK.load 15 (.bool true) (by kernel_rfl) (by kernel_rfl) rfl (fun w hS => run_bin rfl (by kernel_rfl) (by kernel_rfl) (by kernel_rfl) (leqw_t hB w)),
                  RS.StepOK.pure 16 (by kernel_rfl) rfl (fun w => by kernel_rfl),
                  RS.StepOK.pure 17 (by kernel_rfl) rfl (fun w => by kernel_rfl),
                  RS.StepOK.pure 18 (by kernel_rfl) rfl (fun w => by kernel_rfl),
                  RS.StepOK.load 19 (.pointer (some ⟨gq, 3, none⟩)) (by kernel_rfl) (by kernel_rfl) rfl (fun w hS => run_indexAddr rfl (by kernel_rfl) (by kernel_rfl) (index_row gq 7 cq 3 (by decide) w)),
                  RS.StepOK.load 20 (.int .u64 f3) (by kernel_rfl) (by kernel_rfl) rfl (fun w hS => by rw [hS.1]; exact run_load rfl (by kernel_rfl) (load_cell (k := .u64) Tryd.underlying23 hS.2.1)),
                  RS.StepOK.load 21 (.bool false) (by kernel_rfl) (by kernel_rfl) rfl (fun w hS => run_bin rfl (by kernel_rfl) (by kernel_rfl) (by kernel_rfl) (eqlw_f hC w)),
                  RS.StepOK.pure 22 (by kernel_rfl) rfl (fun w => by kernel_rfl),
                  RS.StepOK.pure 23 (by kernel_rfl) rfl (fun w => by kernel_rfl),
                  RS.StepOK.load 24 (.pointer (some ⟨gq, 5, none⟩)) (by kernel_rfl) (by kernel_rfl) rfl (fun w hS => run_indexAddr rfl (by kernel_rfl) (by kernel_rfl) (index_row gq 7 cq 5 (by decide) w)),
                  RS.StepOK.load 25 (.int .u64 f5) (by kernel_rfl) (by kernel_rfl) rfl (fun w hS => by rw [hS.1]; exact run_load rfl (by kernel_rfl) (load_cell (k := .u64) Tryd.underlying23 hS.2.2.2.1)),
                  RS.StepOK.load 26 (.bool true) (by kernel_rfl) (by kernel_rfl) rfl (fun w hS => run_bin rfl (by kernel_rfl) (by kernel_rfl) (by kernel_rfl) (eqlw_t hD w)),
                  RS.StepOK.pure 27 (by kernel_rfl) rfl (fun w => by kernel_rfl),
                  RS.StepOK.pure 28 (by kernel_rfl) rfl (fun w => by kernel_rfl),
                  RS.StepOK.pure 29 (by kernel_rfl) rfl (fun w => by kernel_rfl),
                  RS.StepOK.pure 30 (by kernel_rfl) rfl (fun w => by kernel_rfl),
                  RS.StepOK.load 31 (.pointer (some ⟨gq, 4, none⟩)) (by kernel_rfl) (by kernel_rfl) rfl (fun w hS => run_indexAddr rfl (by kernel_rfl) (by kernel_rfl) (index_row gq 7 cq 4 (by decide) w)),
                  RS.StepOK.load 32 (.int .u64 f4) (by kernel_rfl) (by kernel_rfl) rfl (fun w hS => by rw [hS.1]; exact run_load rfl (by kernel_rfl) (load_cell (k := .u64) Tryd.underlying23 hS.2.2.1)),
                  RS.StepOK.load 33 (.bool true) (by kernel_rfl) (by kernel_rfl) rfl (fun w hS => run_bin rfl (by kernel_rfl) (by kernel_rfl) (by kernel_rfl) (eqlw_t hE w)),
                  RS.StepOK.pure 34 (by kernel_rfl) rfl (fun w => by kernel_rfl),
                  RS.StepOK.off 35 (by kernel_rfl) rfl (by kernel_rfl),
                  RS.StepOK.off 36 (by kernel_rfl) rfl (by kernel_rfl),
                  RS.StepOK.off 37 (by kernel_rfl) rfl (by kernel_rfl),
                  RS.StepOK.off 38 (by kernel_rfl) rfl (by kernel_rfl),
                  RS.StepOK.pure 39 (by kernel_rfl) rfl (fun w => by kernel_rfl),
                  RS.StepOK.pure 40 (by kernel_rfl) rfl (fun w => by kernel_rfl),
                  RS.StepOK.pure 4 (by kernel_rfl) rfl (fun w => by kernel_rfl), trivial⟩
              rintro wc hS
              (try simp only [RS.sets, List.setIfInBounds_toArray, List.set_cons_zero, List.set_cons_succ])
              obtain rfl := hS.1
              try go_wp2_with fail
              go_meet
              exact ⟨by rw [HR0.out], rfl⟩
            · by_cases hG : f6 = 64
              · skip
                have HR0 : Aside0 (right0 f3 f4 f5 f6 = true) := ⟨by unfold right0; simp [hA, hB, hC, hD, hE, hG]⟩
                refine RS.wp_text [(7, .slice (some ⟨gq, 0, none⟩) 7 cq), (8, .pointer (some ⟨gq, 3, none⟩)), (9, .int .u64 f3), (10, .bool true), (11, .bool true), (12, .slice (some ⟨gq, 0, none⟩) 7 cq), (13, .pointer (some ⟨gq, 4, none⟩)), (14, .int .u64 f4), (15, .bool true), (16, .bool true), (17, .bool true), (18, .slice (some ⟨gq, 0, none⟩) 7 cq), (19, .pointer (some ⟨gq, 3, none⟩)), (20, .int .u64 f3), (21, .bool false), (22, .bool false), (23, .slice (some ⟨gq, 0, none⟩) 7 cq), (24, .pointer (some ⟨gq, 5, none⟩)), (25, .int .u64 f5), (26, .bool true), (27, .bool true), (28, .bool true), (29, .bool true), (30, .slice (some ⟨gq, 0, none⟩) 7 cq), (31, .pointer (some ⟨gq, 4, none⟩)), (32, .int .u64 f4), (33, .bool false), (34, .bool false), (35, .slice (some ⟨gq, 0, none⟩) 7 cq), (36, .pointer (some ⟨gq, 6, none⟩)), (37, .int .u64 f6), (38, .bool true), (39, .bool true), (40, .bool true), (4, .bool true)] (R0S gq f3 f4 f5 f6 w) (by kernel_rfl) (by kernel_rfl) ⟨rfl, HX.out⟩ ?_ ?_
                · exact ⟨RS.StepOK.pure 7 (by kernel_rfl) rfl (fun w => by kernel_rfl),
                    RS.StepOK.load 8 (.pointer (some ⟨gq, 3, none⟩)) (by kernel_rfl) (by kernel_rfl) rfl (fun w hS => run_indexAddr rfl (by kernel_rfl) (by kernel_rfl) (index_row gq 7 cq 3 (by decide) w)),
                    RS.StepOK.load 9 (.int .u64 f3) (by kernel_rfl) (by kernel_rfl) rfl (fun w hS => by rw [hS.1]; exact run_load rfl (by kernel_rfl) (load_cell (k := .u64) Tryd.underlying23 hS.2.1)),
                    RS.StepOK.load 10 (.bool true) (by kernel_rfl) (by kernel_rfl) rfl (fun w hS => run_bin rfl (by kernel_rfl) (by kernel_rfl) (by kernel_rfl) (leqw_t hA w)),
                    RS.StepOK.pure 11 (by kernel_rfl) rfl (fun w => by kernel_rfl),
                    RS.StepOK.pure 12 (by kernel_rfl) rfl (fun w => by kernel_rfl),
                    RS.StepOK.load 13 (.pointer (some ⟨gq, 4, none⟩)) (by kernel_rfl) (by kernel_rfl) rfl (fun w hS => run_indexAddr rfl (by kernel_rfl) (by kernel_rfl) (index_row gq 7 cq 4 (by decide) w)),
                    RS.StepOK.load 14 (.int .u64 f4) (by kernel_rfl) (by kernel_rfl) rfl (fun w hS => by rw [hS.1]; exact run_load rfl (by kernel_rfl) (load_cell (k := .u64) Tryd.underlying23 hS.2.2.1)),
                    RS.StepOK.load 15 (.bool true) (by kernel_rfl) (by kernel_rfl) rfl (fun w hS => run_bin rfl (by kernel_rfl) (by kernel_rfl) (by kernel_rfl) (leqw_t hB w)),
                    RS.StepOK.pure 16 (by kernel_rfl) rfl (fun w => by kernel_rfl),
                    RS.StepOK.pure 17 (by kernel_rfl) rfl (fun w => by kernel_rfl),
                    RS.StepOK.pure 18 (by kernel_rfl) rfl (fun w => by kernel_rfl),
                    RS.StepOK.load 19 (.pointer (some ⟨gq, 3, none⟩)) (by kernel_rfl) (by kernel_rfl) rfl (fun w hS => run_indexAddr rfl (by kernel_rfl) (by kernel_rfl) (index_row gq 7 cq 3 (by decide) w)),
                    RS.StepOK.load 20 (.int .u64 f3) (by kernel_rfl) (by kernel_rfl) rfl (fun w hS => by rw [hS.1]; exact run_load rfl (by kernel_rfl) (load_cell (k := .u64) Tryd.underlying23 hS.2.1)),
                    RS.StepOK.load 21 (.bool false) (by kernel_rfl) (by kernel_rfl) rfl (fun w hS => run_bin rfl (by kernel_rfl) (by kernel_rfl) (by kernel_rfl) (eqlw_f hC w)),
                    RS.StepOK.pure 22 (by kernel_rfl) rfl (fun w => by kernel_rfl),
                    RS.StepOK.pure 23 (by kernel_rfl) rfl (fun w => by kernel_rfl),
                    RS.StepOK.load 24 (.pointer (some ⟨gq, 5, none⟩)) (by kernel_rfl) (by kernel_rfl) rfl (fun w hS => run_indexAddr rfl (by kernel_rfl) (by kernel_rfl) (index_row gq 7 cq 5 (by decide) w)),
                    RS.StepOK.load 25 (.int .u64 f5) (by kernel_rfl) (by kernel_rfl) rfl (fun w hS => by rw [hS.1]; exact run_load rfl (by kernel_rfl) (load_cell (k := .u64) Tryd.underlying23 hS.2.2.2.1)),
                    RS.StepOK.load 26 (.bool true) (by kernel_rfl) (by kernel_rfl) rfl (fun w hS => run_bin rfl (by kernel_rfl) (by kernel_rfl) (by kernel_rfl) (eqlw_t hD w)),
                    RS.StepOK.pure 27 (by kernel_rfl) rfl (fun w => by kernel_rfl),
                    RS.StepOK.pure 28 (by kernel_rfl) rfl (fun w => by kernel_rfl),
                    RS.StepOK.pure 29 (by kernel_rfl) rfl (fun w => by kernel_rfl),
                    RS.StepOK.pure 30 (by kernel_rfl) rfl (fun w => by kernel_rfl),
                    RS.StepOK.load 31 (.pointer (some ⟨gq, 4, none⟩)) (by kernel_rfl) (by kernel_rfl) rfl (fun w hS => run_indexAddr rfl (by kernel_rfl) (by kernel_rfl) (index_row gq 7 cq 4 (by decide) w)),
                    RS.StepOK.load 32 (.int .u64 f4) (by kernel_rfl) (by kernel_rfl) rfl (fun w hS => by rw [hS.1]; exact run_load rfl (by kernel_rfl) (load_cell (k := .u64) Tryd.underlying23 hS.2.2.1)),
                    RS.StepOK.load 33 (.bool false) (by kernel_rfl) (by kernel_rfl) rfl (fun w hS => run_bin rfl (by kernel_rfl) (by kernel_rfl) (by kernel_rfl) (eqlw_f hE w)),
                    RS.StepOK.pure 34 (by kernel_rfl) rfl (fun w => by kernel_rfl),
                    RS.StepOK.pure 35 (by kernel_rfl) rfl (fun w => by kernel_rfl),
                    RS.StepOK.load 36 (.pointer (some ⟨gq, 6, none⟩)) (by kernel_rfl) (by kernel_rfl) rfl (fun w hS => run_indexAddr rfl (by kernel_rfl) (by kernel_rfl) (index_row gq 7 cq 6 (by decide) w)),
                    RS.StepOK.load 37 (.int .u64 f6) (by kernel_rfl) (by kernel_rfl) rfl (fun w hS => by rw [hS.1]; exact run_load rfl (by kernel_rfl) (load_cell (k := .u64) Tryd.underlying23 hS.2.2.2.2)),
                    RS.StepOK.load 38 (.bool true) (by kernel_rfl) (by kernel_rfl) rfl (fun w hS => run_bin rfl (by kernel_rfl) (by kernel_rfl) (by kernel_rfl) (eqlw_t hG w)),
                    RS.StepOK.pure 39 (by kernel_rfl) rfl (fun w => by kernel_rfl),
                    RS.StepOK.pure 40 (by kernel_rfl) rfl (fun w => by kernel_rfl),
                    RS.StepOK.pure 4 (by kernel_rfl) rfl (fun w => by kernel_rfl), trivial⟩
                rintro wc hS
                (try simp only [RS.sets, List.setIfInBounds_toArray, List.set_cons_zero, List.set_cons_succ])
                obtain rfl := hS.1
                try go_wp2_with fail
                go_meet
                exact ⟨by rw [HR0.out], rfl⟩
              · skip
                have HR0 : Aside0 (right0 f3 f4 f5 f6 = false) := ⟨by unfold right0; simp [hA, hB, hC, hD, hE, hG]⟩
                refine RS.wp_text [(7, .slice (some ⟨gq, 0, none⟩) 7 cq), (8, .pointer (some ⟨gq, 3, none⟩)), (9, .int .u64 f3), (10, .bool true), (11, .bool true), (12, .slice (some ⟨gq, 0, none⟩) 7 cq), (13, .pointer (some ⟨gq, 4, none⟩)), (14, .int .u64 f4), (15, .bool true), (16, .bool true), (17, .bool true), (18, .slice (some ⟨gq, 0, none⟩) 7 cq), (19, .pointer (some ⟨gq, 3, none⟩)), (20, .int .u64 f3), (21, .bool false), (22, .bool false), (23, .slice (some ⟨gq, 0, none⟩) 7 cq), (24, .pointer (some ⟨gq, 5, none⟩)), (25, .int .u64 f5), (26, .bool true), (27, .bool true), (28, .bool true), (29, .bool true), (30, .slice (some ⟨gq, 0, none⟩) 7 cq), (31, .pointer (some ⟨gq, 4, none⟩)), (32, .int .u64 f4), (33, .bool false), (34, .bool false), (35, .slice (some ⟨gq, 0, none⟩) 7 cq), (36, .pointer (some ⟨gq, 6, none⟩)), (37, .int .u64 f6), (38, .bool false), (39, .bool false), (40, .bool false), (4, .bool false)] (R0S gq f3 f4 f5 f6 w) (by kernel_rfl) (by kernel_rfl) ⟨rfl, HX.out⟩ ?_ ?_
                · exact ⟨RS.StepOK.pure 7 (by kernel_rfl) rfl (fun w => by kernel_rfl),
                    RS.StepOK.load 8 (.pointer (some ⟨gq, 3, none⟩)) (by kernel_rfl) (by kernel_rfl) rfl (fun w hS => run_indexAddr rfl (by kernel_rfl) (by kernel_rfl) (index_row gq 7 cq 3 (by decide) w)),
                    RS.StepOK.load 9 (.int .u64 f3) (by kernel_rfl) (by kernel_rfl) rfl (fun w hS => by rw [hS.1]; exact run_load rfl (by kernel_rfl) (load_cell (k := .u64) Tryd.underlying23 hS.2.1)),
                    RS.StepOK.load 10 (.bool true) (by kernel_rfl) (by kernel_rfl) rfl (fun w hS => run_bin rfl (by kernel_rfl) (by kernel_rfl) (by kernel_rfl) (leqw_t hA w)),
                    RS.StepOK.pure 11 (by kernel_rfl) rfl (fun w => by kernel_rfl),
                    RS.StepOK.pure 12 (by kernel_rfl) rfl (fun w => by kernel_rfl),
                    RS.StepOK.load 13 (.pointer (some ⟨gq, 4, none⟩)) (by kernel_rfl) (by kernel_rfl) rfl (fun w hS => run_indexAddr rfl (by kernel_rfl) (by kernel_rfl) (index_row gq 7 cq 4 (by decide) w)),
                    RS.StepOK.load 14 (.int .u64 f4) (by kernel_rfl) (by kernel_rfl) rfl (fun w hS => by rw [hS.1]; exact run_load rfl (by kernel_rfl) (load_cell (k := .u64) Tryd.underlying23 hS.2.2.1)),
                    RS.StepOK.load 15 (.bool true) (by kernel_rfl) (by kernel_rfl) rfl (fun w hS => run_bin rfl (by kernel_rfl) (by kernel_rfl) (by kernel_rfl) (leqw_t hB w)),
                    RS.StepOK.pure 16 (by kernel_rfl) rfl (fun w => by kernel_rfl),
                    RS.StepOK.pure 17 (by kernel_rfl) rfl (fun w => by kernel_rfl),
                    RS.StepOK.pure 18 (by kernel_rfl) rfl (fun w => by kernel_rfl),
                    RS.StepOK.load 19 (.pointer (some ⟨gq, 3, none⟩)) (by kernel_rfl) (by kernel_rfl) rfl (fun w hS => run_indexAddr rfl (by kernel_rfl) (by kernel_rfl) (index_row gq 7 cq 3 (by decide) w)),
                    RS.StepOK.load 20 (.int .u64 f3) (by kernel_rfl) (by kernel_rfl) rfl (fun w hS => by rw [hS.1]; exact run_load rfl (by kernel_rfl) (load_cell (k := .u64) Tryd.underlying23 hS.2.1)),
                    RS.StepOK.load 21 (.bool false) (by kernel_rfl) (by kernel_rfl) rfl (fun w hS => run_bin rfl (by kernel_rfl) (by kernel_rfl) (by kernel_rfl) (eqlw_f hC w)),
                    RS.StepOK.pure 22 (by kernel_rfl) rfl (fun w => by kernel_rfl),
                    RS.StepOK.pure 23 (by kernel_rfl) rfl (fun w => by kernel_rfl),
                    RS.StepOK.load 24 (.pointer (some ⟨gq, 5, none⟩)) (by kernel_rfl) (by kernel_rfl) rfl (fun w hS => run_indexAddr rfl (by kernel_rfl) (by kernel_rfl) (index_row gq 7 cq 5 (by decide) w)),
                    RS.StepOK.load 25 (.int .u64 f5) (by kernel_rfl) (by kernel_rfl) rfl (fun w hS => by rw [hS.1]; exact run_load rfl (by kernel_rfl) (load_cell (k := .u64) Tryd.underlying23 hS.2.2.2.1)),
                    RS.StepOK.load 26 (.bool true) (by kernel_rfl) (by kernel_rfl) rfl (fun w hS => run_bin rfl (by kernel_rfl) (by kernel_rfl) (by kernel_rfl) (eqlw_t hD w)),
                    RS.StepOK.pure 27 (by kernel_rfl) rfl (fun w => by kernel_rfl),
                    RS.StepOK.pure 28 (by kernel_rfl) rfl (fun w => by kernel_rfl),
                    RS.StepOK.pure 29 (by kernel_rfl) rfl (fun w => by kernel_rfl),
                    RS.StepOK.pure 30 (by kernel_rfl) rfl (fun w => by kernel_rfl),
                    RS.StepOK.load 31 (.pointer (some ⟨gq, 4, none⟩)) (by kernel_rfl) (by kernel_rfl) rfl (fun w hS => run_indexAddr rfl (by kernel_rfl) (by kernel_rfl) (index_row gq 7 cq 4 (by decide) w)),
                    RS.StepOK.load 32 (.int .u64 f4) (by kernel_rfl) (by kernel_rfl) rfl (fun w hS => by rw [hS.1]; exact run_load rfl (by kernel_rfl) (load_cell (k := .u64) Tryd.underlying23 hS.2.2.1)),
                    RS.StepOK.load 33 (.bool false) (by kernel_rfl) (by kernel_rfl) rfl (fun w hS => run_bin rfl (by kernel_rfl) (by kernel_rfl) (by kernel_rfl) (eqlw_f hE w)),
                    RS.StepOK.pure 34 (by kernel_rfl) rfl (fun w => by kernel_rfl),
                    RS.StepOK.pure 35 (by kernel_rfl) rfl (fun w => by kernel_rfl),
                    RS.StepOK.load 36 (.pointer (some ⟨gq, 6, none⟩)) (by kernel_rfl) (by kernel_rfl) rfl (fun w hS => run_indexAddr rfl (by kernel_rfl) (by kernel_rfl) (index_row gq 7 cq 6 (by decide) w)),
                    RS.StepOK.load 37 (.int .u64 f6) (by kernel_rfl) (by kernel_rfl) rfl (fun w hS => by rw [hS.1]; exact run_load rfl (by kernel_rfl) (load_cell (k := .u64) Tryd.underlying23 hS.2.2.2.2)),
                    RS.StepOK.load 38 (.bool false) (by kernel_rfl) (by kernel_rfl) rfl (fun w hS => run_bin rfl (by kernel_rfl) (by kernel_rfl) (by kernel_rfl) (eqlw_f hG w)),
                    RS.StepOK.pure 39 (by kernel_rfl) rfl (fun w => by kernel_rfl),
                    RS.StepOK.pure 40 (by kernel_rfl) rfl (fun w => by kernel_rfl),
                    RS.StepOK.pure 4 (by kernel_rfl) rfl (fun w => by kernel_rfl), trivial⟩
                rintro wc hS
                (try simp only [RS.sets, List.setIfInBounds_toArray, List.set_cons_zero, List.set_cons_succ])
                obtain rfl := hS.1
                try go_wp2_with fail
                go_meet
                exact ⟨by rw [HR0.out], rfl⟩
          · skip
            have HR0 : Aside0 (right0 f3 f4 f5 f6 = false) := ⟨by unfold right0; simp [hA, hB, hC, hD]⟩
            refine RS.wp_text [(7, .slice (some ⟨gq, 0, none⟩) 7 cq), (8, .pointer (some ⟨gq, 3, none⟩)), (9, .int .u64 f3), (10, .bool true), (11, .bool true), (12, .slice (some ⟨gq, 0, none⟩) 7 cq), (13, .pointer (some ⟨gq, 4, none⟩)), (14, .int .u64 f4), (15, .bool true), (16, .bool true), (17, .bool true), (18, .slice (some ⟨gq, 0, none⟩) 7 cq), (19, .pointer (some ⟨gq, 3, none⟩)), (20, .int .u64 f3), (21, .bool false), (22, .bool false), (23, .slice (some ⟨gq, 0, none⟩) 7 cq), (24, .pointer (some ⟨gq, 5, none⟩)), (25, .int .u64 f5), (26, .bool false), (27, .bool false), (28, .bool false), (29, .bool false), (30, undef), (31, undef), (32, undef), (33, undef), (34, undef), (35, undef), (36, undef), (37, undef), (38, undef), (39, undef), (40, .bool false), (4, .bool false)] (R0S gq f3 f4 f5 f6 w) (by kernel_rfl) (by kernel_rfl) ⟨rfl, HX.out⟩ ?_ ?_
            · exact ⟨RS.StepOK.pure 7 (by kernel_rfl) rfl (fun w => by kernel_rfl),
                RS.StepOK.load 8 (.pointer (some ⟨gq, 3, none⟩)) (by kernel_rfl) (by kernel_rfl) rfl (fun w hS => run_indexAddr rfl (by kernel_rfl) (by kernel_rfl) (index_row gq 7 cq 3 (by decide) w)),
                RS.StepOK.load 9 (.int .u64 f3) (by kernel_rfl) (by kernel_rfl) rfl (fun w hS => by rw [hS.1]; exact run_load rfl (by kernel_rfl) (load_cell (k := .u64) Tryd.underlying23 hS.2.1)),
                RS.StepOK.load 10 (.bool true) (by kernel_rfl) (by kernel_rfl) rfl (fun w hS => run_bin rfl (by kernel_rfl) (by kernel_rfl) (by kernel_rfl) (leqw_t hA w)),
                RS.StepOK.pure 11 (by kernel_rfl) rfl (fun w => by kernel_rfl),
                RS.StepOK.pure 12 (by kernel_rfl) rfl (fun w => by kernel_rfl),
                RS.StepOK.load 13 (.pointer (some ⟨gq, 4, none⟩)) (by kernel_rfl) (by kernel_rfl) rfl (fun w hS => run_indexAddr rfl (by kernel_rfl) (by kernel_rfl) (index_row gq 7 cq 4 (by decide) w)),
                RS.StepOK.load 14 (.int .u64 f4) (by kernel_rfl) (by kernel_rfl) rfl (fun w hS => by rw [hS.1]; exact run_load rfl (by kernel_rfl) (load_cell (k := .u64) Tryd.underlying23 hS.2.2.1)),
                RS.StepOK.load 15 (.bool true) (by kernel_rfl) (by kernel_rfl) rfl (fun w hS => run_bin rfl (by kernel_rfl) (by kernel_rfl) (by kernel_rfl) (leqw_t hB w)),
                RS.StepOK.pure 16 (by kernel_rfl) rfl (fun w => by kernel_rfl),
                RS.StepOK.pure 17 (by kernel_rfl) rfl (fun w => by kernel_rfl),
                RS.StepOK.pure 18 (by kernel_rfl) rfl (fun w => by kernel_rfl),
                RS.StepOK.load 19 (.pointer (some ⟨gq, 3, none⟩)) (by kernel_rfl) (by kernel_rfl) rfl (fun w hS => run_indexAddr rfl (by kernel_rfl) (by kernel_rfl) (index_row gq 7 cq 3 (by decide) w)),
                RS.StepOK.load 20 (.int .u64 f3) (by kernel_rfl) (by kernel_rfl) rfl (fun w hS => by rw [hS.1]; exact run_load rfl (by kernel_rfl) (load_cell (k := .u64) Tryd.underlying23 hS.2.1)),
                RS.StepOK.load 21 (.bool false) (by kernel_rfl) (by kernel_rfl) rfl (fun w hS => run_bin rfl (by kernel_rfl) (by kernel_rfl) (by kernel_rfl) (eqlw_f hC w)),
                RS.StepOK.pure 22 (by kernel_rfl) rfl (fun w => by kernel_rfl),
                RS.StepOK.pure 23 (by kernel_rfl) rfl (fun w => by kernel_rfl),
                RS.StepOK.load 24 (.pointer (some ⟨gq, 5, none⟩)) (by kernel_rfl) (by kernel_rfl) rfl (fun w hS => run_indexAddr rfl (by kernel_rfl) (by kernel_rfl) (index_row gq 7 cq 5 (by decide) w)),
                RS.StepOK.load 25 (.int .u64 f5) (by kernel_rfl) (by kernel_rfl) rfl (fun w hS => by rw [hS.1]; exact run_load rfl (by kernel_rfl) (load_cell (k := .u64) Tryd.underlying23 hS.2.2.2.1)),
                RS.StepOK.load 26 (.bool false) (by kernel_rfl) (by kernel_rfl) rfl (fun w hS => run_bin rfl (by kernel_rfl) (by kernel_rfl) (by kernel_rfl) (eqlw_f hD w)),
                RS.StepOK.pure 27 (by kernel_rfl) rfl (fun w => by kernel_rfl),
                RS.StepOK.pure 28 (by kernel_rfl) rfl (fun w => by kernel_rfl),
                RS.StepOK.pure 29 (by kernel_rfl) rfl (fun w => by kernel_rfl),
                RS.StepOK.off 30 (by kernel_rfl) rfl (by kernel_rfl),
                RS.StepOK.off 31 (by kernel_rfl) rfl (by kernel_rfl),
                RS.StepOK.off 32 (by kernel_rfl) rfl (by kernel_rfl),
                RS.StepOK.off 33 (by kernel_rfl) rfl (by kernel_rfl),
                RS.StepOK.off 34 (by kernel_rfl) rfl (by kernel_rfl),
                RS.StepOK.off 35 (by kernel_rfl) rfl (by kernel_rfl),
                RS.StepOK.off 36 (by kernel_rfl) rfl (by kernel_rfl),
                RS.StepOK.off 37 (by kernel_rfl) rfl (by kernel_rfl),
                RS.StepOK.off 38 (by kernel_rfl) rfl (by kernel_rfl),
                RS.StepOK.off 39 (by kernel_rfl) rfl (by kernel_rfl),
                RS.StepOK.pure 40 (by kernel_rfl) rfl (fun w => by kernel_rfl),
                RS.StepOK.pure 4 (by kernel_rfl) rfl (fun w => by kernel_rfl), trivial⟩
            rintro wc hS
            (try simp only [RS.sets, List.setIfInBounds_toArray, List.set_cons_zero, List.set_cons_succ])
            obtain rfl := hS.1
            try go_wp2_with fail
            go_meet
            exact ⟨by rw [HR0.out], rfl⟩
      · skip
        have HR0 : Aside0 (right0 f3 f4 f5 f6 = false) := ⟨by unfold right0; simp [hA, hB]⟩
        refine RS.wp_text [(7, .slice (some ⟨gq, 0, none⟩) 7 cq), (8, .pointer (some ⟨gq, 3, none⟩)), (9, .int .u64 f3), (10, .bool true), (11, .bool true), (12, .slice (some ⟨gq, 0, none⟩) 7 cq), (13, .pointer (some ⟨gq, 4, none⟩)), (14, .int .u64 f4), (15, .bool false), (16, .bool false), (17, .bool false), (18, undef), (19, undef), (20, undef), (21, undef), (22, undef), (23, undef), (24, undef), (25, undef), (26, undef), (27, undef), (28, .bool false), (29, .bool false), (30, undef), (31, undef), (32, undef), (33, undef), (34, undef), (35, undef), (36, undef), (37, undef), (38, undef), (39, undef), (40, .bool false), (4, .bool false)] (R0S gq f3 f4 f5 f6 w) (by kernel_rfl) (by kernel_rfl) ⟨rfl, HX.out⟩ ?_ ?_
        · exact ⟨RS.StepOK.pure 7 (by kernel_rfl) rfl (fun w => by kernel_rfl),
            RS.StepOK.load 8 (.pointer (some ⟨gq, 3, none⟩)) (by kernel_rfl) (by kernel_rfl) rfl (fun w hS => run_indexAddr rfl (by kernel_rfl) (by kernel_rfl) (index_row gq 7 cq 3 (by decide) w)),
            RS.StepOK.load 9 (.int .u64 f3) (by kernel_rfl) (by kernel_rfl) rfl (fun w hS => by rw [hS.1]; exact run_load rfl (by kernel_rfl) (load_cell (k := .u64) Tryd.underlying23 hS.2.1)),
            RS.StepOK.load 10 (.bool true) (by kernel_rfl) (by kernel_rfl) rfl (fun w hS => run_bin rfl (by kernel_rfl) (by kernel_rfl) (by kernel_rfl) (leqw_t hA w)),
            RS.StepOK.pure 11 (by kernel_rfl) rfl (fun w => by kernel_rfl),
            RS.StepOK.pure 12 (by kernel_rfl) rfl (fun w => by kernel_rfl),
            RS.StepOK.load 13 (.pointer (some ⟨gq, 4, none⟩)) (by kernel_rfl) (by kernel_rfl) rfl (fun w hS => run_indexAddr rfl (by kernel_rfl) (by kernel_rfl) (index_row gq 7 cq 4 (by decide) w)),
            RS.StepOK.load 14 (.int .u64 f4) (by kernel_rfl) (by kernel_rfl) rfl (fun w hS => by rw [hS.1]; exact run_load rfl (by kernel_rfl) (load_cell (k := .u64) Tryd.underlying23 hS.2.2.1)),
            RS.StepOK.load 15 (.bool false) (by kernel_rfl) (by kernel_rfl) rfl (fun w hS => run_bin rfl (by kernel_rfl) (by kernel_rfl) (by kernel_rfl) (leqw_f hB w)),
            RS.StepOK.pure 16 (by kernel_rfl) rfl (fun w => by kernel_rfl),
            RS.StepOK.pure 17 (by kernel_rfl) rfl (fun w => by kernel_rfl),
            RS.StepOK.off 18 (by kernel_rfl) rfl (by kernel_rfl),
            RS.StepOK.off 19 (by kernel_rfl) rfl (by kernel_rfl),
            RS.StepOK.off 20 (by kernel_rfl) rfl (by kernel_rfl),
            RS.StepOK.off 21 (by kernel_rfl) rfl (by kernel_rfl),
            RS.StepOK.off 22 (by kernel_rfl) rfl (by kernel_rfl),
            RS.StepOK.off 23 (by kernel_rfl) rfl (by kernel_rfl),
            RS.StepOK.off 24 (by kernel_rfl) rfl (by kernel_rfl),
            RS.StepOK.off 25 (by kernel_rfl) rfl (by kernel_rfl),
            RS.StepOK.off 26 (by kernel_rfl) rfl (by kernel_rfl),
            RS.StepOK.off 27 (by kernel_rfl) rfl (by kernel_rfl),
            RS.StepOK.pure 28 (by kernel_rfl) rfl (fun w => by kernel_rfl),
            RS.StepOK.pure 29 (by kernel_rfl) rfl (fun w => by kernel_rfl),
            RS.StepOK.off 30 (by kernel_rfl) rfl (by kernel_rfl),
            RS.StepOK.off 31 (by kernel_rfl) rfl (by kernel_rfl),
            RS.StepOK.off 32 (by kernel_rfl) rfl (by kernel_rfl),
            RS.StepOK.off 33 (by kernel_rfl) rfl (by kernel_rfl),
            RS.StepOK.off 34 (by kernel_rfl) rfl (by kernel_rfl),
            RS.StepOK.off 35 (by kernel_rfl) rfl (by kernel_rfl),
            RS.StepOK.off 36 (by kernel_rfl) rfl (by kernel_rfl),
            RS.StepOK.off 37 (by kernel_rfl) rfl (by kernel_rfl),
            RS.StepOK.off 38 (by kernel_rfl) rfl (by kernel_rfl),
            RS.StepOK.off 39 (by kernel_rfl) rfl (by kernel_rfl),
            RS.StepOK.pure 40 (by kernel_rfl) rfl (fun w => by kernel_rfl),
            RS.StepOK.pure 4 (by kernel_rfl) rfl (fun w => by kernel_rfl), trivial⟩
        rintro wc hS
        (try simp only [RS.sets, List.setIfInBounds_toArray, List.set_cons_zero, List.set_cons_succ])
        obtain rfl := hS.1
        try go_wp2_with fail
        go_meet
        exact ⟨by rw [HR0.out], rfl⟩
    · skip
      have HR0 : Aside0 (right0 f3 f4 f5 f6 = false) := ⟨by unfold right0; simp [hA]⟩
      refine RS.wp_text [(7, .slice (some ⟨gq, 0, none⟩) 7 cq), (8, .pointer (some ⟨gq, 3, none⟩)), (9, .int .u64 f3), (10, .bool false), (11, .bool false), (12, undef), (13, undef), (14, undef), (15, undef), (16, .bool false), (17, .bool false), (18, undef), (19, undef), (20, undef), (21, undef), (22, undef), (23, undef), (24, undef), (25, undef), (26, undef), (27, undef), (28, .bool false), (29, .bool false), (30, undef), (31, undef), (32, undef), (33, undef), (34, undef), (35, undef), (36, undef), (37, undef), (38, undef), (39, undef), (40, .bool false), (4, .bool false)] (R0S gq f3 f4 f5 f6 w) (by kernel_rfl) (by kernel_rfl) ⟨rfl, HX.out⟩ ?_ ?_
      · exact ⟨RS.StepOK.pure 7 (by kernel_rfl) rfl (fun w => by kernel_rfl),
          RS.StepOK.load 8 (.pointer (some ⟨gq, 3, none⟩)) (by kernel_rfl) (by kernel_rfl) rfl (fun w hS => run_indexAddr rfl (by kernel_rfl) (by kernel_rfl) (index_row gq 7 cq 3 (by decide) w)),
          RS.StepOK.load 9 (.int .u64 f3) (by kernel_rfl) (by kernel_rfl) rfl (fun w hS => by rw [hS.1]; exact run_load rfl (by kernel_rfl) (load_cell (k := .u64) Tryd.underlying23 hS.2.1)),
          RS.StepOK.load 10 (.bool false) (by kernel_rfl) (by kernel_rfl) rfl (fun w hS => run_bin rfl (by kernel_rfl) (by kernel_rfl) (by kernel_rfl) (leqw_f hA w)),
          RS.StepOK.pure 11 (by kernel_rfl) rfl (fun w => by kernel_rfl),
          RS.StepOK.off 12 (by kernel_rfl) rfl (by kernel_rfl),
          RS.StepOK.off 13 (by kernel_rfl) rfl (by kernel_rfl),
          RS.StepOK.off 14 (by kernel_rfl) rfl (by kernel_rfl),
          RS.StepOK.off 15 (by kernel_rfl) rfl (by kernel_rfl),
          RS.StepOK.pure 16 (by kernel_rfl) rfl (fun w => by kernel_rfl),
          RS.StepOK.pure 17 (by kernel_rfl) rfl (fun w => by kernel_rfl),
          RS.StepOK.off 18 (by kernel_rfl) rfl (by kernel_rfl),
          RS.StepOK.off 19 (by kernel_rfl) rfl (by kernel_rfl),
          RS.StepOK.off 20 (by kernel_rfl) rfl (by kernel_rfl),
          RS.StepOK.off 21 (by kernel_rfl) rfl (by kernel_rfl),
          RS.StepOK.off 22 (by kernel_rfl) rfl (by kernel_rfl),
          RS.StepOK.off 23 (by kernel_rfl) rfl (by kernel_rfl),
          RS.StepOK.off 24 (by kernel_rfl) rfl (by kernel_rfl),
          RS.StepOK.off 25 (by kernel_rfl) rfl (by kernel_rfl),
          RS.StepOK.off 26 (by kernel_rfl) rfl (by kernel_rfl),
          RS.StepOK.off 27 (by kernel_rfl) rfl (by kernel_rfl),
          RS.StepOK.pure 28 (by kernel_rfl) rfl (fun w => by kernel_rfl),
          RS.StepOK.pure 29 (by kernel_rfl) rfl (fun w => by kernel_rfl),
          RS.StepOK.off 30 (by kernel_rfl) rfl (by kernel_rfl),
          RS.StepOK.off 31 (by kernel_rfl) rfl (by kernel_rfl),
          RS.StepOK.off 32 (by kernel_rfl) rfl (by kernel_rfl),
          RS.StepOK.off 33 (by kernel_rfl) rfl (by kernel_rfl),
          RS.StepOK.off 34 (by kernel_rfl) rfl (by kernel_rfl),
          RS.StepOK.off 35 (by kernel_rfl) rfl (by kernel_rfl),
          RS.StepOK.off 36 (by kernel_rfl) rfl (by kernel_rfl),
          RS.StepOK.off 37 (by kernel_rfl) rfl (by kernel_rfl),
          RS.StepOK.off 38 (by kernel_rfl) rfl (by kernel_rfl),
          RS.StepOK.off 39 (by kernel_rfl) rfl (by kernel_rfl),
          RS.StepOK.pure 40 (by kernel_rfl) rfl (fun w => by kernel_rfl),
          RS.StepOK.pure 4 (by kernel_rfl) rfl (fun w => by kernel_rfl), trivial⟩
      rintro wc hS
      (try simp only [RS.sets, List.setIfInBounds_toArray, List.set_cons_zero, List.set_cons_succ])
      obtain rfl := hS.1
      try go_wp2_with fail
      go_meet
      exact ⟨by rw [HR0.out], rfl⟩
  case rest =>
    obtain ⟨rfl, rfl⟩ := hcut
    go_wp2_with fail
    go_step3
    go_upto_region 2 with (fail)
    refine RS.wp_text [(41, .agg mustV), (42, .int .i64 0)] (fun w' => w' = wc) (by kernel_rfl) (by kernel_rfl) rfl ?_ ?_
    · exact ⟨RS.StepOK.load 41 (.agg mustV) (by kernel_rfl) (by kernel_rfl) rfl (fun w hS => by rw [hS]; exact run_load rfl (by kernel_rfl) (must_load HT.out)),
        RS.StepOK.pure 42 (by kernel_rfl) rfl (fun w => by kernel_rfl), trivial⟩
    rintro w2 rfl
    (try simp only [RS.sets, List.setIfInBounds_toArray, List.set_cons_zero, List.set_cons_succ])
    obtain ⟨r0, hr0⟩ : ∃ r0, right0 f3 f4 f5 f6 = r0 := ⟨_, rfl⟩
    rw [hr0]
    have HR0 := Aside0.mk hr0
    clear hr0
    go_wp2_with fail
    go_loopw [4, 42] (fun v t wr => ∃ (i : Nat) (r : Bool), i ≤ 8 ∧ t = .int .i64 (i : Int) ∧ v = .bool r ∧ Aside0 ((r0 && mustOk xs i) = r) ∧ Below w2.heap.size w2 wr) (fun _ t _ => (8 - intOf t).toNat)
    case atStart => exact ⟨0, r0, by omega, rfl, rfl, ⟨by simp [mustOk]⟩, Below.refl _ _⟩
    case round =>
      obtain ⟨i, r, hi, rfl, rfl, HR, hb⟩ := hrel
      have HBL := Aside0.mk hb
      clear hb
      by_cases hin : i < 8
      · obtain ⟨f, hfe, hwf, hix⟩ := index_must i hin
        have hok : mustOk xs (i + 1) = (mustOk xs i && (fieldN xs ((mustF.getD i (0, 0, 0)).1, (mustF.getD i (0, 0, 0)).2.1) == (mustF.getD i (0, 0, 0)).2.2)) := rfl
        rw [hfe] at hok
        have HOK := Aside0.mk hok
        have HWF := Aside0.mk hwf
        have e1 : decide ((i : Int) < 8) = true := decide_eq_true (by omega)
        clear hwf hfe hok
        go_upto_region 5 with (fail)
        clear hix
        have hb2 : Below wr.heap.size wr (wr.alloc (.cells #[.int .i64 (f.1 : Int), .int .i64 (f.2.1 : Int), .int .u64 f.2.2] 68)) := bX_ (Below.refl _ _) _
        have hn2 := World.alloc_heap_new wr (.cells #[.int .i64 (f.1 : Int), .int .i64 (f.2.1 : Int), .int .u64 f.2.2] 68)
        have HB5 := Aside0.mk (below_step HBL.out hb2)
        generalize wr.alloc (.cells #[.int .i64 (f.1 : Int), .int .i64 (f.2.1 : Int), .int .u64 f.2.2] 68) = w5 at *
        generalize wr.heap.size = g9 at *
        have HBOX := Aside0.mk hn2
        clear hb2 hn2 HBL
        cases r
        · go_quiet (fail)
          go_wp2_with fail
          unfold Exit.noGoto
          go_ret
          refine ⟨?_, below_drewN HB5.out _⟩
          rw [HR0.out, mustOk_false (xs := xs) (r := r0) (i := i) (j := 8) HR.out (by omega)]
          rfl
        · have hrow : Row8 w5 ad xs := fun j hj => pw_cell_below HB5.out (HRO.out j hj)
          have HROW := Aside0.mk hrow
          have r0' : w5.cell? ⟨g9, 0, none⟩ = some (.int .i64 (f.1 : Int)) := (bC_ HBOX.out 0).trans rfl
          have r1' : w5.cell? ⟨g9, 1, none⟩ = some (.int .i64 (f.2.1 : Int)) := (bC_ HBOX.out 1).trans rfl
          have r2' : w5.cell? ⟨g9, 2, none⟩ = some (.int .u64 f.2.2) := (bC_ HBOX.out 2).trans rfl
          have hwn : 1 ≤ f.2.1 ∧ f.2.1 ≤ 8 ∧ f.1 + f.2.1 ≤ n := by have := HWF.out; omega
          have HWN := Aside0.mk hwn
          have hsl := fun W => slice_field ad n c (f.1, f.2.1) hwn hc W
          have hsm : IntKind.i64.wrap ((f.1 : Int) + (f.2.1 : Int)) = (f.1 : Int) + (f.2.1 : Int) := by rw [IntKind.wrap_i64]; have := HWF.out; omega
          clear hrow hwn
          go_quiet ((go_at_call 36; exact Calls.quiet_of_same (number_at_same ad c xs (f.1, f.2.1) _ rfl _ (by rw [HN.out]; exact HWN.out) (by rw [HN.out]; exact hc) HROW.out HB.out)))
          obtain ⟨bq, hbq⟩ : ∃ bq, (fieldN xs (f.1, f.2.1) == f.2.2) = bq := ⟨_, rfl⟩
          rw [hbq]
          have HBQ := Aside0.mk hbq
          clear hbq r0' r1' r2' hsl hsm
          cases bq
          · go_wp2_with fail
            unfold Exit.noGoto
            go_ret
            refine ⟨?_, below_drewN HB5.out _⟩
            rw [HR0.out, mustOk_false (xs := xs) (r := r0) (i := i + 1) (j := 8) (by rw [HOK.out, HBQ.out]; simp) (by omega)]
            rfl
          · go_wp2_with fail
            go_roundw
            case rel => exact ⟨i + 1, true, by omega, by go_num, rfl, ⟨by rw [HOK.out, HBQ.out, Bool.and_true]; exact HR.out⟩, below_drewN HB5.out _⟩
            case measure => simp [intOf]; omega
      · have hie : i = 8 := by omega
        subst hie
        have e1 : decide (((8 : Nat) : Int) < 8) = false := by decide
        go_wp2
        unfold Exit.noGoto
        go_ret
        refine ⟨?_, HBL.out⟩
        rw [HR0.out, HR.out]
        rfl
end Go.Proofs.YtopldeeojehklaaDoor.B
