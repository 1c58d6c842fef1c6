/- The law CpuAddress, walked along its one true way. The law CpuBack, walked along its one true way, for each width. The law CpuBack, walked along its one true way, for each width. The law CpuBack: its function tells true. The row's condition on the listed table of functions, as facts of cells; and what flags that are handed in hold. What a CPU that is handed in holds; the law CpuBack: its function tells true. The law CpuAddress: its function tells true. -/
import Derived.Test.YtpmclnlgipphmaaDoorAq12
import Derived.Test.YtpmclnlgipphmaaDoorAq7
import Derived.Test.YtpmclnlgipphmaaDoorRows
import Derived.ProofKit
import Derived.LaidMore
import Derived.OpenShut
import Derived.ChangeSame
import Derived.Stop.Joined
import Derived.Test.YtpmclnlgipphmaaDoorAq13
import Derived.Test.YtpmclnlgipphmaaDoorAq14
namespace Go.Proofs.YtpmclnlgipphmaaDoor.B
open Go.RowKit Go.Proofs.YtpmclnlgipphmaaDoorW.PrintWords Go.Proofs.YtpmclnlgipphmaaDoorW.PrintMore Go.RF
set_option linter.unusedVariables false
set_option linter.unusedSimpArgs false
set_option maxHeartbeats 8000000 in
set_option maxRecDepth 100000 in
theorem adr_some (cs : Array Value) (R base idx sc dp im nx y xb xi : Int) (w0 : World) (hsz : cs.size = 278) (h1c : cs.all (·.oneCell') = true) (hR : ∀ j, j < 16 → ∃ n : Int, cs[j]? = some (.int .u64 n) ∧ 0 ≤ n ∧ n < 18446744073709551616) (hT : Tab w0) (hr : rightF 2 R base idx sc dp false im = true) (hb16 : base < 16) (hi16 : idx < 16)
    (hxb : 0 ≤ base → cs[base.toNat]? = some (.int .u64 xb)) (hxi : 0 ≤ idx → cs[idx.toNat]? = some (.int .u64 xi)) (hbi : 0 ≤ base ∨ 0 ≤ idx) :
    Calls Tryd.prog 4 #[.agg cs, .agg (opC 2 R base idx sc dp im false), .int .u64 nx, .int .u64 y] w0 fun e w' => e = .returned (.bool true) ∧ Below w0.heap.size w0 w' := by
  have HR1 := Aside0.mk (show operand_Right.f 2 2 R base idx sc dp false im = some true by rw [right_f, hr])
  have HR2 := Aside0.mk (show sundialref08_Right.f 2 2 R base idx sc dp false im = some true by rw [refRight 0, hr])
  obtain ⟨A, hA⟩ : ∃ a, addrF base idx sc dp nx xb xi false = a := ⟨_, rfl⟩
  have hc : ∀ (n : Int) (w : World), Calls Tryd.prog 9 #[.agg cs, .agg (opC 2 R base idx sc dp im false), .int .u64 n] w fun e w' => e = .returned (.tuple #[.int .u64 (addrF base idx sc dp n xb xi false), .int .i64 0]) ∧ Below w.heap.size w w' := fun n w => by
    have h := address_ok cs R base idx sc dp im n xb xi false w hsz HR1.out hb16 hi16 (fun h => (by cases h)) hxb hxi
    rw [sum_addr] at h
    exact h
  have h1 : ∀ w : World, Calls Tryd.prog 9 #[.agg cs, .agg (opC 2 R base idx sc dp im false), .int .u64 nx] w fun e w' => e = .returned (.tuple #[.int .u64 A, .int .i64 0]) ∧ Below w.heap.size w w' := fun w => by rw [← hA]; exact hc nx w
  have h2 : ∀ w : World, Calls Tryd.prog 9 #[.agg cs, .agg (opC 2 R base idx sc dp im false), .int .u64 (IntKind.u64.wrap (nx + y))] w fun e w' => e = .returned (.tuple #[.int .u64 A, .int .i64 0]) ∧ Below w.heap.size w w' := fun w => by
    have h := hc (IntKind.u64.wrap (nx + y)) w
    rw [addr_same base idx sc dp nx (IntKind.u64.wrap (nx + y)) xb xi, hA] at h
    exact h
  have h3 : ∀ (j : Nat) (v : Int) (w : World), j < 16 → cs[j]? = some (.int .u64 v) → Calls Tryd.prog 9 #[.agg (cs.setIfInBounds j (.int .u64 (IntKind.u64.wrap (v + y)))), .agg (opC 2 R base idx sc dp im false), .int .u64 nx] w fun e w' => e = .returned (.tuple #[.int .u64 (IntKind.u64.wrap (A + moreF base idx sc (j : Int) y)), .int .i64 0]) ∧ Below w.heap.size w w' := fun j v w hj hv => by
    have get : ∀ (b x : Int), (0 ≤ b → cs[b.toNat]? = some (.int .u64 x)) → b < 16 → 0 ≤ b → (cs.setIfInBounds j (.int .u64 (IntKind.u64.wrap (v + y))))[b.toNat]? = some (.int .u64 (if b = (j : Int) then IntKind.u64.wrap (x + y) else x)) := fun b x hx hb hb0 => by
      by_cases e : b = (j : Int)
      · subst e
        rw [if_pos rfl]
        have := hx hb0
        simp only [Int.toNat_natCast] at this ⊢
        rw [hv] at this
        injection this with this
        injection this with _ this
        rw [Array.getElem?_setIfInBounds, if_pos rfl, if_pos (by omega), this]
      · rw [if_neg e, Array.getElem?_setIfInBounds, if_neg (by omega)]
        exact hx hb0
    have h := address_ok (cs.setIfInBounds j (.int .u64 (IntKind.u64.wrap (v + y)))) R base idx sc dp im nx (if base = (j : Int) then IntKind.u64.wrap (xb + y) else xb) (if idx = (j : Int) then IntKind.u64.wrap (xi + y) else xi) false w (by simpa using hsz) HR1.out hb16 hi16 (fun h => (by cases h)) (get base xb hxb hb16) (get idx xi hxi hi16)
    rw [sum_addr, addr_more _ _ _ _ _ _ _ _ _ _ (by omega), hA] at h
    exact h
  have hU : ∃ l, sundialref08_Uses.f 2 R base idx sc dp false im = some l ∧ 1 ≤ l.length ∧ l.length ≤ 2 := by
    unfold sundialref08_Uses.f
    rw [if_pos rfl]
    by_cases hb : base ≥ 0
    · rw [if_pos hb, if_pos (by simp)]
      simp only [Option.bind_some, List.nil_append]
      by_cases hi : idx ≥ 0
      · rw [if_pos hi, if_pos (by simp)]
        exact ⟨_, rfl, by simp, by simp⟩
      · rw [if_neg hi]
        exact ⟨_, rfl, by simp, by simp⟩
    · rw [if_neg hb, if_pos (show idx ≥ 0 by omega), if_pos (by simp)]
      exact ⟨_, rfl, by simp, by simp⟩
  obtain ⟨l, hU, hl1, hl2⟩ := hU
  have hl0 : (l.length : Int) ≠ 0 := by omega
  have HU := Aside0.mk hU
  have HL0 := Aside0.mk hl0
  clear hU hl1 hl2 hl0
  have H1 := Aside0.mk h1
  have H2 := Aside0.mk h2
  have H3 := Aside0.mk h3
  have HRR := Aside0.mk hR
  have H1C := Aside0.mk h1c
  clear h1 h2 h3 hc hr hxb hxi hR h1c hA hb16 hi16
  clear hbi
  have hu29 := Tryd.underlying29
  have hu36 := Tryd.underlying36
  have HSZ := Aside0.mk hsz
  have hs : AdS w0 w0.heap.size (w0.heap.size + 1) cs (opC 2 R base idx sc dp im false) ((w0.alloc (.cells cs 29)).alloc (.cells (opC 2 R base idx sc dp im false) 36)) := by
    have hb : Below w0.heap.size w0 ((w0.alloc (.cells cs 29)).alloc (.cells (opC 2 R base idx sc dp im false) 36)) := bX_ (bX_ (Below.refl _ _) _) _
    refine ⟨(Below.heap_alloc _ _ _ (by simp)).trans (World.alloc_heap_new w0 _), ?_, hT.below hb, hb⟩
    have h := World.alloc_heap_new (w0.alloc (.cells cs 29)) (.cells (opC 2 R base idx sc dp im false) 36)
    rwa [World.size_alloc] at h
  have HS := Aside0.mk hs
  clear hs hT hsz
  go_enter Tryd.func4, Tryd.ntmps4
  go_upto_region 1 with (fail)
  generalize (w0.alloc (.cells cs 29)).alloc (.cells (opC 2 R base idx sc dp im false) 36) = w1 at *
  obtain ⟨g0, hg0⟩ : ∃ g, w0.heap.size = g := ⟨_, rfl⟩
  rw [hg0] at HS
  (try rw [hg0])
  obtain ⟨g1, hg1⟩ : ∃ g, g0 + 1 = g := ⟨_, rfl⟩
  rw [hg1] at HS
  (try rw [hg1])
  have HG0 := Aside0.mk hg0
  have HG1 := Aside0.mk hg1
  clear hg0 hg1
  refine RS.wp_text [(20, .agg cs), (21, .agg (opC 2 R base idx sc dp im false)), (22, .int .u64 nx), (23, .tuple #[.int .u64 A, .int .i64 0]), (19, .tuple #[.int .u64 A, .int .i64 0]), (24, .int .u64 A), (25, .int .i64 0), (9, .int .u64 A), (10, .int .i64 0)] (AdS w0 g0 g1 cs (opC 2 R base idx sc dp im false)) (by kernel_rfl) (by kernel_rfl) HS.out ?_ ?_
  · exact ⟨RS.StepOK.load 20 (.agg cs) (by kernel_rfl) (by kernel_rfl) rfl (fun w hS => run_load rfl (by kernel_rfl) (load_row HSZ.out hS.1)),
      RS.StepOK.load 21 (.agg (opC 2 R base idx sc dp im false)) (by kernel_rfl) (by kernel_rfl) rfl (fun w hS => run_load rfl (by kernel_rfl) (load_op hS.2.1)),
      RS.StepOK.pure 22 (by kernel_rfl) rfl (fun w => by kernel_rfl),
      RS.StepOK.call 23 9 #[.agg cs, .agg (opC 2 R base idx sc dp im false), .int .u64 nx] (.tuple #[.int .u64 A, .int .i64 0]) (by kernel_rfl) (by kernel_rfl) rfl (fun w => by kernel_rfl) (fun w hS => hS.met (H1.out w)),
      RS.StepOK.pure 19 (by kernel_rfl) rfl (fun w => by kernel_rfl),
      RS.StepOK.pure 24 (by kernel_rfl) rfl (fun w => by kernel_rfl),
      RS.StepOK.pure 25 (by kernel_rfl) rfl (fun w => by kernel_rfl),
      RS.StepOK.pure 9 (by kernel_rfl) rfl (fun w => by kernel_rfl),
      RS.StepOK.pure 10 (by kernel_rfl) rfl (fun w => by kernel_rfl), trivial⟩
  rintro w2 hs
  clear HS
  have HS := Aside0.mk hs
  clear hs
  (try simp only [RS.sets, List.setIfInBounds_toArray, List.set_cons_zero, List.set_cons_succ])
  go_upto_region 2 with (fail)
  refine RS.wp_text [(26, .pointer (some ⟨g1, 0, none⟩)), (27, .int .u8 2), (28, .bool false), (29, .bool false), (30, .agg (opC 2 R base idx sc dp im false)), (31, .bool true), (32, .bool false), (33, .bool false)] (AdS w0 g0 g1 cs (opC 2 R base idx sc dp im false)) (by kernel_rfl) (by kernel_rfl) HS.out ?_ ?_
  · exact ⟨RS.StepOK.pure 26 (by kernel_rfl) rfl (fun w => by kernel_rfl),
      RS.StepOK.load 27 (.int .u8 2) (by kernel_rfl) (by kernel_rfl) rfl (fun w hS => run_load rfl (by kernel_rfl) (load_cell (i := 0) Tryd.underlying5 hS.2.1 (by kernel_rfl))),
      RS.StepOK.pure 28 (by kernel_rfl) rfl (fun w => by kernel_rfl),
      RS.StepOK.pure 29 (by kernel_rfl) rfl (fun w => by kernel_rfl),
      RS.StepOK.load 30 (.agg (opC 2 R base idx sc dp im false)) (by kernel_rfl) (by kernel_rfl) rfl (fun w hS => run_load rfl (by kernel_rfl) (load_op hS.2.1)),
      RS.StepOK.call 31 10 #[.agg (opC 2 R base idx sc dp im false)] (.bool true) (by kernel_rfl) (by kernel_rfl) rfl (fun w => by kernel_rfl) (fun w hS => hS.met (sundialref08_Right.calls 2 2 R base idx sc dp false im true w HR2.out)),
      RS.StepOK.pure 32 (by kernel_rfl) rfl (fun w => by kernel_rfl),
      RS.StepOK.pure 33 (by kernel_rfl) rfl (fun w => by kernel_rfl), trivial⟩
  rintro w3 hs
  clear HS
  have HS := Aside0.mk hs
  clear hs
  (try simp only [RS.sets, List.setIfInBounds_toArray, List.set_cons_zero, List.set_cons_succ])
  have q0 : w3.cell? ⟨g1, 0, none⟩ = some (.int .u8 2) := by rw [bC_ HS.out.2.1]; rfl
  have q1 : w3.cell? ⟨g1, 1, none⟩ = some (.int .i64 R) := by rw [bC_ HS.out.2.1]; rfl
  have q2 : w3.cell? ⟨g1, 2, none⟩ = some (.int .i64 base) := by rw [bC_ HS.out.2.1]; rfl
  have q3 : w3.cell? ⟨g1, 3, none⟩ = some (.int .i64 idx) := by rw [bC_ HS.out.2.1]; rfl
  have q4 : w3.cell? ⟨g1, 4, none⟩ = some (.int .i64 sc) := by rw [bC_ HS.out.2.1]; rfl
  have q5 : w3.cell? ⟨g1, 5, none⟩ = some (.int .i64 dp) := by rw [bC_ HS.out.2.1]; rfl
  have q6 : w3.cell? ⟨g1, 6, none⟩ = some (.bool false) := by rw [bC_ HS.out.2.1]; rfl
  have q7 : w3.cell? ⟨g1, 7, none⟩ = some (.int .i64 im) := by rw [bC_ HS.out.2.1]; rfl
  go_upto_region 5 with (first | (go_at_call 11; refine (sundialref08_Uses.calls 2 R base idx sc dp false im l _ HU.out).mono ?_; rintro e w4 ⟨v0, rfl, ho, hb⟩; obtain ⟨A0, c0, e0⟩ := Kd.R_slice ho; (try rw [List.length_nil] at e0); subst e0; have n0 := Aside0.mk (HS.out.below hb); clear HS hb ho; have HS := n0; clear n0))
  clear q0 q1 q2 q3 q4 q5 q6 q7
  refine RS.wp_text [(45, .int .i64 0), (46, .bool false), (47, .bool false), (48, .slice A0 l.length c0), (49, .int .i64 (l.length : Int)), (50, .bool false), (51, .bool false), (52, undef), (53, undef), (54, undef), (55, .bool false), (56, .bool false), (57, undef), (58, undef), (59, undef), (60, undef), (61, undef), (62, .bool false), (63, .bool false)] (AdS w0 g0 g1 cs (opC 2 R base idx sc dp im false)) (by kernel_rfl) (by kernel_rfl) HS.out ?_ ?_
  · exact ⟨RS.StepOK.pure 45 (by kernel_rfl) rfl (fun w => by kernel_rfl),
      RS.StepOK.pure 46 (by kernel_rfl) rfl (fun w => by kernel_rfl),
      RS.StepOK.pure 47 (by kernel_rfl) rfl (fun w => by kernel_rfl),
      RS.StepOK.pure 48 (by kernel_rfl) rfl (fun w => by kernel_rfl),
      RS.StepOK.pure 49 (by kernel_rfl) rfl (fun w => by kernel_rfl),
      RS.StepOK.load 50 (.bool false) (by kernel_rfl) (by kernel_rfl) rfl (fun w hS => run_bin rfl (by kernel_rfl) (by kernel_rfl) (by kernel_rfl) (eql_i64' HL0.out w)),
      RS.StepOK.pure 51 (by kernel_rfl) rfl (fun w => by kernel_rfl),
      RS.StepOK.off 52 (by kernel_rfl) rfl (by kernel_rfl),
      RS.StepOK.off 53 (by kernel_rfl) rfl (by kernel_rfl),
      RS.StepOK.off 54 (by kernel_rfl) rfl (by kernel_rfl),
      RS.StepOK.pure 55 (by kernel_rfl) rfl (fun w => by kernel_rfl),
      RS.StepOK.pure 56 (by kernel_rfl) rfl (fun w => by kernel_rfl),
      RS.StepOK.off 57 (by kernel_rfl) rfl (by kernel_rfl),
      RS.StepOK.off 58 (by kernel_rfl) rfl (by kernel_rfl),
      RS.StepOK.off 59 (by kernel_rfl) rfl (by kernel_rfl),
      RS.StepOK.off 60 (by kernel_rfl) rfl (by kernel_rfl),
      RS.StepOK.off 61 (by kernel_rfl) rfl (by kernel_rfl),
      RS.StepOK.pure 62 (by kernel_rfl) rfl (fun w => by kernel_rfl),
      RS.StepOK.pure 63 (by kernel_rfl) rfl (fun w => by kernel_rfl), trivial⟩
  rintro w5 hs
  clear HS
  have HS := Aside0.mk hs
  clear hs
  (try simp only [RS.sets, List.setIfInBounds_toArray, List.set_cons_zero, List.set_cons_succ])
  go_upto_region 7 with (fail)
  refine RS.wp_text [(65, .agg cs), (66, .agg (opC 2 R base idx sc dp im false)), (67, .int .u64 nx), (68, .int .u64 y), (69, .int .u64 (IntKind.u64.wrap (nx + y))), (70, .tuple #[.int .u64 A, .int .i64 0]), (64, .tuple #[.int .u64 A, .int .i64 0]), (71, .int .u64 A), (72, .int .i64 0), (12, .int .u64 A), (13, .int .i64 0)] (AdS w0 g0 g1 cs (opC 2 R base idx sc dp im false)) (by kernel_rfl) (by kernel_rfl) HS.out ?_ ?_
  · exact ⟨RS.StepOK.load 65 (.agg cs) (by kernel_rfl) (by kernel_rfl) rfl (fun w hS => run_load rfl (by kernel_rfl) (load_row HSZ.out hS.1)),
      RS.StepOK.load 66 (.agg (opC 2 R base idx sc dp im false)) (by kernel_rfl) (by kernel_rfl) rfl (fun w hS => run_load rfl (by kernel_rfl) (load_op hS.2.1)),
      RS.StepOK.pure 67 (by kernel_rfl) rfl (fun w => by kernel_rfl),
      RS.StepOK.pure 68 (by kernel_rfl) rfl (fun w => by kernel_rfl),
      RS.StepOK.pure 69 (by kernel_rfl) rfl (fun w => by kernel_rfl),
      RS.StepOK.call 70 9 #[.agg cs, .agg (opC 2 R base idx sc dp im false), .int .u64 (IntKind.u64.wrap (nx + y))] (.tuple #[.int .u64 A, .int .i64 0]) (by kernel_rfl) (by kernel_rfl) rfl (fun w => by kernel_rfl) (fun w hS => hS.met (H2.out w)),
      RS.StepOK.pure 64 (by kernel_rfl) rfl (fun w => by kernel_rfl),
      RS.StepOK.pure 71 (by kernel_rfl) rfl (fun w => by kernel_rfl),
      RS.StepOK.pure 72 (by kernel_rfl) rfl (fun w => by kernel_rfl),
      RS.StepOK.pure 12 (by kernel_rfl) rfl (fun w => by kernel_rfl),
      RS.StepOK.pure 13 (by kernel_rfl) rfl (fun w => by kernel_rfl), trivial⟩
  rintro w6 hs
  clear HS
  have HS := Aside0.mk hs
  clear hs
  (try simp only [RS.sets, List.setIfInBounds_toArray, List.set_cons_zero, List.set_cons_succ])
  go_upto_region 8 with (fail)
  refine RS.wp_text [(73, .int .i64 0), (74, .bool false), (75, .bool false), (76, .pointer (some ⟨g1, 6, none⟩)), (77, .bool false), (78, .bool false), (79, undef), (80, undef), (81, undef), (82, undef), (83, undef), (84, .bool false), (85, .bool false), (86, .bool false), (87, .pointer (some ⟨g1, 6, none⟩)), (88, .bool false), (89, .bool true), (90, .bool true), (91, .int .u64 A), (92, .int .u64 A), (93, .bool false), (94, .bool false), (95, .bool false)] (AdS w0 g0 g1 cs (opC 2 R base idx sc dp im false)) (by kernel_rfl) (by kernel_rfl) HS.out ?_ ?_
  · exact ⟨RS.StepOK.pure 73 (by kernel_rfl) rfl (fun w => by kernel_rfl),
      RS.StepOK.pure 74 (by kernel_rfl) rfl (fun w => by kernel_rfl),
      RS.StepOK.pure 75 (by kernel_rfl) rfl (fun w => by kernel_rfl),
      RS.StepOK.pure 76 (by kernel_rfl) rfl (fun w => by kernel_rfl),
      RS.StepOK.load 77 (.bool false) (by kernel_rfl) (by kernel_rfl) rfl (fun w hS => run_load rfl (by kernel_rfl) (load_flag (i := 6) hS.2.1 (by kernel_rfl))),
      RS.StepOK.pure 78 (by kernel_rfl) rfl (fun w => by kernel_rfl),
      RS.StepOK.off 79 (by kernel_rfl) rfl (by kernel_rfl),
      RS.StepOK.off 80 (by kernel_rfl) rfl (by kernel_rfl),
      RS.StepOK.off 81 (by kernel_rfl) rfl (by kernel_rfl),
      RS.StepOK.off 82 (by kernel_rfl) rfl (by kernel_rfl),
      RS.StepOK.off 83 (by kernel_rfl) rfl (by kernel_rfl),
      RS.StepOK.pure 84 (by kernel_rfl) rfl (fun w => by kernel_rfl),
      RS.StepOK.pure 85 (by kernel_rfl) rfl (fun w => by kernel_rfl),
      RS.StepOK.pure 86 (by kernel_rfl) rfl (fun w => by kernel_rfl),
      RS.StepOK.pure 87 (by kernel_rfl) rfl (fun w => by kernel_rfl),
      RS.StepOK.load 88 (.bool false) (by kernel_rfl) (by kernel_rfl) rfl (fun w hS => run_load rfl (by kernel_rfl) (load_flag (i := 6) hS.2.1 (by kernel_rfl))),
      RS.StepOK.pure 89 (by kernel_rfl) rfl (fun w => by kernel_rfl),
      RS.StepOK.pure 90 (by kernel_rfl) rfl (fun w => by kernel_rfl),
      RS.StepOK.pure 91 (by kernel_rfl) rfl (fun w => by kernel_rfl),
      RS.StepOK.pure 92 (by kernel_rfl) rfl (fun w => by kernel_rfl),
      RS.StepOK.load 93 (.bool false) (by kernel_rfl) (by kernel_rfl) rfl (fun w hS => run_bin rfl (by kernel_rfl) (by kernel_rfl) (by kernel_rfl) (neq_word (x := A) rfl w)),
      RS.StepOK.pure 94 (by kernel_rfl) rfl (fun w => by kernel_rfl),
      RS.StepOK.pure 95 (by kernel_rfl) rfl (fun w => by kernel_rfl), trivial⟩
  rintro w7 hs
  clear HS
  have HS := Aside0.mk hs
  clear hs
  (try simp only [RS.sets, List.setIfInBounds_toArray, List.set_cons_zero, List.set_cons_succ])
  go_wp2_with fail
  go_loopw [14, 15, 16, 17, 18] (fun u _ _ _ _ wr => ∃ j : Nat, j ≤ 16 ∧ u = .int .i64 (j : Int) ∧ AdS w0 g0 g1 cs (opC 2 R base idx sc dp im false) wr) (fun u _ _ _ _ _ => 16 - (RowKit.intOf u).toNat)
  case atStart => exact ⟨0, by omega, rfl, HS.out⟩
  case round =>
    obtain ⟨j, hj, rfl, hs⟩ := hrel
    clear HS
    have HS := Aside0.mk hs
    clear hs
    by_cases hj16 : j < 16
    · obtain ⟨v, hv, hv0, hv1⟩ := HRR.out j hj16
      have HV := Aside0.mk hv
      clear hv
      have hin : (Tryd.prog.info? 29).map (·.size) = some cs.size := by rw [HSZ.out]; exact size29
      have HIN := Aside0.mk hin
      clear hin
      have G0 := Aside0.mk HS.out.1
      go_upto_region 14 with (first | (with_reducible refine wpList_load_row rfl 29 (.tmp 4) rfl g0 rfl 29 cs (0, 0) _ G0.out hu29 rfl HIN.out ?_) | ((with_reducible refine gate_dst (N := 15) rfl ?_); refine box_event rfl (N := 15) rfl (cs := Z29) (t := 29) (by show Sem.run Tryd.prog _ _ = _; simp only [execOp, Sem.run_bind, run_alloc29, Result.andThen_ok, Sem.run_pure]) ?_; intro g2 hg w8 hbox hb; have HL := Aside0.mk (show w0.heap.size ≤ g2 ∧ g0 < g2 ∧ g1 < g2 by have := HS.out.2.2.2.size; have := blk_lt HS.out.1; have := blk_lt HS.out.2.1; omega); have n0 := Aside0.mk (HS.out.below hb); have B2 := Aside0.mk hbox; clear HS hb hbox hg; have HS := n0; clear n0) | (with_reducible refine wpList_store_row rfl 29 (.tmp 15) (.tmp 100) rfl g2 cs rfl rfl 29 Z29 B2.out HIN.out (by rw [HSZ.out]; kernel_rfl) H1C.out ?_))
      clear G0
      have hkp := keeps_setRow w8 g2 cs
      have hs : AdT w0 g0 g1 g2 cs (opC 2 R base idx sc dp im false) cs (w8.setRow g2 cs) := by
        have hB := HS.out.2.2.2.trans (hkp.below HS.out.2.2.2.size (fun k hk h => by have := HL.out; omega))
        exact ⟨⟨hkp.at_ HS.out.1 (by have := HL.out; omega), hkp.at_ HS.out.2.1 (by have := HL.out; omega), HS.out.2.2.1.keeps hkp (fun h => by have := HL.out; omega), hB⟩, setRow_heap w8 g2 Z29 cs 29 (0, 0) B2.out⟩
      clear HS
      have HS := Aside0.mk hs
      clear hs hkp B2
      generalize w8.setRow g2 cs = w9 at *
      have q0 : w9.cell? ⟨g2, j, none⟩ = some (.int .u64 v) := by rw [bC_ HS.out.2]; exact HV.out
      have z0 : w9.frozen? ⟨g2, j, none⟩ = false := bF_ HS.out.2 j
      have j0 : (0 : Int) ≤ (j : Int) := by omega
      have j1 : (j : Int) < 16 := by omega
      go_upto_region 15 with (fail)
      have hkp : Keeps (fun k => k = g2) w9 (w9.setCell ⟨g2, j, none⟩ (.int .u64 (IntKind.u64.wrap (v + y)))) := (Keeps.refl _ _).setCell _ _ rfl
      have hs : AdT w0 g0 g1 g2 cs (opC 2 R base idx sc dp im false) (cs.setIfInBounds j (.int .u64 (IntKind.u64.wrap (v + y)))) (w9.setCell ⟨g2, j, none⟩ (.int .u64 (IntKind.u64.wrap (v + y)))) := by
        obtain ⟨⟨s1, s2, s3, s4⟩, s5⟩ := HS.out
        exact ⟨⟨hkp.at_ s1 (by have := HL.out; omega), hkp.at_ s2 (by have := HL.out; omega), s3.keeps hkp (fun h => by have := HL.out; omega), s4.trans (hkp.below s4.size (fun k hk h => by have := HL.out; omega))⟩, blk_set1 s5 _ _⟩
      clear HS
      have HS := Aside0.mk hs
      clear hs hkp q0 z0
      generalize w9.setCell ⟨g2, j, none⟩ (.int .u64 (IntKind.u64.wrap (v + y))) = w10 at *
      refine RS.wp_text [(111, .agg (cs.setIfInBounds j (.int .u64 (IntKind.u64.wrap (v + y))))), (112, .agg (opC 2 R base idx sc dp im false)), (113, .int .u64 nx), (114, .tuple #[.int .u64 (IntKind.u64.wrap (A + moreF base idx sc (j : Int) y)), .int .i64 0]), (110, .tuple #[.int .u64 (IntKind.u64.wrap (A + moreF base idx sc (j : Int) y)), .int .i64 0]), (115, .int .u64 (IntKind.u64.wrap (A + moreF base idx sc (j : Int) y))), (116, .int .i64 0), (16, .int .u64 (IntKind.u64.wrap (A + moreF base idx sc (j : Int) y))), (17, .int .i64 0)] (AdT w0 g0 g1 g2 cs (opC 2 R base idx sc dp im false) (cs.setIfInBounds j (.int .u64 (IntKind.u64.wrap (v + y))))) (by kernel_rfl) (by kernel_rfl) HS.out ?_ ?_
      · exact ⟨RS.StepOK.load 111 (.agg (cs.setIfInBounds j (.int .u64 (IntKind.u64.wrap (v + y))))) (by kernel_rfl) (by kernel_rfl) rfl (fun w hS => run_load rfl (by kernel_rfl) (load_row (by simpa using HSZ.out) hS.2)),
          RS.StepOK.load 112 (.agg (opC 2 R base idx sc dp im false)) (by kernel_rfl) (by kernel_rfl) rfl (fun w hS => run_load rfl (by kernel_rfl) (load_op hS.1.2.1)),
          RS.StepOK.pure 113 (by kernel_rfl) rfl (fun w => by kernel_rfl),
          RS.StepOK.call 114 9 #[.agg (cs.setIfInBounds j (.int .u64 (IntKind.u64.wrap (v + y)))), .agg (opC 2 R base idx sc dp im false), .int .u64 nx] (.tuple #[.int .u64 (IntKind.u64.wrap (A + moreF base idx sc (j : Int) y)), .int .i64 0]) (by kernel_rfl) (by kernel_rfl) rfl (fun w => by kernel_rfl) (fun w hS => hS.met (H3.out j v w hj16 HV.out)),
          RS.StepOK.pure 110 (by kernel_rfl) rfl (fun w => by kernel_rfl),
          RS.StepOK.pure 115 (by kernel_rfl) rfl (fun w => by kernel_rfl),
          RS.StepOK.pure 116 (by kernel_rfl) rfl (fun w => by kernel_rfl),
          RS.StepOK.pure 16 (by kernel_rfl) rfl (fun w => by kernel_rfl),
          RS.StepOK.pure 17 (by kernel_rfl) rfl (fun w => by kernel_rfl), trivial⟩
      rintro w11 hs
      clear HS
      have HS := Aside0.mk hs
      clear hs
      (try simp only [RS.sets, List.setIfInBounds_toArray, List.set_cons_zero, List.set_cons_succ])
      by_cases hbj : base = (j : Int)
      · by_cases hij : idx = (j : Int)
        · go_upto_region 17 with (fail)
          refine RS.wp_text [(117, .pointer (some ⟨g1, 2, none⟩)), (118, .int .i64 base), (119, .int .i64 (j : Int)), (120, .bool true)] (AdT w0 g0 g1 g2 cs (opC 2 R base idx sc dp im false) (cs.setIfInBounds j (.int .u64 (IntKind.u64.wrap (v + y))))) (by kernel_rfl) (by kernel_rfl) HS.out ?_ ?_
          · exact ⟨RS.StepOK.pure 117 (by kernel_rfl) rfl (fun w => by kernel_rfl),
              RS.StepOK.load 118 (.int .i64 base) (by kernel_rfl) (by kernel_rfl) rfl (fun w hS => run_load rfl (by kernel_rfl) (load_cell (i := 2) (by kernel_rfl) hS.1.2.1 (by kernel_rfl))),
              RS.StepOK.pure 119 (by kernel_rfl) rfl (fun w => by kernel_rfl),
              RS.StepOK.load 120 (.bool true) (by kernel_rfl) (by kernel_rfl) rfl (fun w hS => run_bin rfl (by kernel_rfl) (by kernel_rfl) (by kernel_rfl) (eql_i64 hbj w)), trivial⟩
          rintro w12 hs
          clear HS
          have HS := Aside0.mk hs
          clear hs
          (try simp only [RS.sets, List.setIfInBounds_toArray, List.set_cons_zero, List.set_cons_succ])
          go_upto_region 19 with (fail)
          refine RS.wp_text [(124, .pointer (some ⟨g1, 3, none⟩)), (125, .int .i64 idx), (126, .int .i64 (j : Int)), (127, .bool true)] (AdT w0 g0 g1 g2 cs (opC 2 R base idx sc dp im false) (cs.setIfInBounds j (.int .u64 (IntKind.u64.wrap (v + y))))) (by kernel_rfl) (by kernel_rfl) HS.out ?_ ?_
          · exact ⟨RS.StepOK.pure 124 (by kernel_rfl) rfl (fun w => by kernel_rfl),
              RS.StepOK.load 125 (.int .i64 idx) (by kernel_rfl) (by kernel_rfl) rfl (fun w hS => run_load rfl (by kernel_rfl) (load_cell (i := 3) (by kernel_rfl) hS.1.2.1 (by kernel_rfl))),
              RS.StepOK.pure 126 (by kernel_rfl) rfl (fun w => by kernel_rfl),
              RS.StepOK.load 127 (.bool true) (by kernel_rfl) (by kernel_rfl) rfl (fun w hS => run_bin rfl (by kernel_rfl) (by kernel_rfl) (by kernel_rfl) (eql_i64 hij w)), trivial⟩
          rintro w14 hs
          clear HS
          have HS := Aside0.mk hs
          clear hs
          (try simp only [RS.sets, List.setIfInBounds_toArray, List.set_cons_zero, List.set_cons_succ])
          have q4 : w14.cell? ⟨g1, 4, none⟩ = some (.int .i64 sc) := by rw [bC_ HS.out.1.2.1]; rfl
          go_upto_region 21 with (fail)
          clear q4
          refine RS.wp_text [(135, .int .i64 0), (136, .bool false), (137, .bool false), (138, .int .u64 (IntKind.u64.wrap (A + moreF base idx sc (j : Int) y))), (139, .int .u64 A), (140, .int .u64 (IntKind.u64.wrap ((IntKind.u64.wrap y) + IntKind.u64.wrap (y * IntKind.u64.wrap sc)))), (141, .int .u64 (IntKind.u64.wrap (A + (IntKind.u64.wrap ((IntKind.u64.wrap y) + IntKind.u64.wrap (y * IntKind.u64.wrap sc)))))), (142, .bool false), (143, .bool false)] (AdT w0 g0 g1 g2 cs (opC 2 R base idx sc dp im false) (cs.setIfInBounds j (.int .u64 (IntKind.u64.wrap (v + y))))) (by kernel_rfl) (by kernel_rfl) HS.out ?_ ?_
          · exact ⟨RS.StepOK.pure 135 (by kernel_rfl) rfl (fun w => by kernel_rfl),
              RS.StepOK.pure 136 (by kernel_rfl) rfl (fun w => by kernel_rfl),
              RS.StepOK.pure 137 (by kernel_rfl) rfl (fun w => by kernel_rfl),
              RS.StepOK.pure 138 (by kernel_rfl) rfl (fun w => by kernel_rfl),
              RS.StepOK.pure 139 (by kernel_rfl) rfl (fun w => by kernel_rfl),
              RS.StepOK.pure 140 (by kernel_rfl) rfl (fun w => by kernel_rfl),
              RS.StepOK.pure 141 (by kernel_rfl) rfl (fun w => by kernel_rfl),
              RS.StepOK.load 142 (.bool false) (by kernel_rfl) (by kernel_rfl) rfl (fun w hS => run_bin rfl (by kernel_rfl) (by kernel_rfl) (by kernel_rfl) (neq_word (x := (IntKind.u64.wrap (A + moreF base idx sc (j : Int) y))) (y := IntKind.u64.wrap (A + (IntKind.u64.wrap ((IntKind.u64.wrap y) + IntKind.u64.wrap (y * IntKind.u64.wrap sc))))) (by unfold moreF; rw [if_pos hij, if_pos hbj] <;> simp only [IntKind.wrap_u64] <;> omega) w)),
              RS.StepOK.pure 143 (by kernel_rfl) rfl (fun w => by kernel_rfl), trivial⟩
          rintro w16 hs
          clear HS
          have HS := Aside0.mk hs
          clear hs
          (try simp only [RS.sets, List.setIfInBounds_toArray, List.set_cons_zero, List.set_cons_succ])
          go_wp2_with fail
          go_roundw
          case rel => exact ⟨j + 1, by omega, by go_num, HS.out.1⟩
          case measure => simp [RowKit.intOf]; omega
        · go_upto_region 17 with (fail)
          refine RS.wp_text [(117, .pointer (some ⟨g1, 2, none⟩)), (118, .int .i64 base), (119, .int .i64 (j : Int)), (120, .bool true)] (AdT w0 g0 g1 g2 cs (opC 2 R base idx sc dp im false) (cs.setIfInBounds j (.int .u64 (IntKind.u64.wrap (v + y))))) (by kernel_rfl) (by kernel_rfl) HS.out ?_ ?_
          · exact ⟨RS.StepOK.pure 117 (by kernel_rfl) rfl (fun w => by kernel_rfl),
              RS.StepOK.load 118 (.int .i64 base) (by kernel_rfl) (by kernel_rfl) rfl (fun w hS => run_load rfl (by kernel_rfl) (load_cell (i := 2) (by kernel_rfl) hS.1.2.1 (by kernel_rfl))),
              RS.StepOK.pure 119 (by kernel_rfl) rfl (fun w => by kernel_rfl),
              RS.StepOK.load 120 (.bool true) (by kernel_rfl) (by kernel_rfl) rfl (fun w hS => run_bin rfl (by kernel_rfl) (by kernel_rfl) (by kernel_rfl) (eql_i64 hbj w)), trivial⟩
          rintro w12 hs
          clear HS
          have HS := Aside0.mk hs
          clear hs
          (try simp only [RS.sets, List.setIfInBounds_toArray, List.set_cons_zero, List.set_cons_succ])
          go_upto_region 19 with (fail)
          refine RS.wp_text [(124, .pointer (some ⟨g1, 3, none⟩)), (125, .int .i64 idx), (126, .int .i64 (j : Int)), (127, .bool false)] (AdT w0 g0 g1 g2 cs (opC 2 R base idx sc dp im false) (cs.setIfInBounds j (.int .u64 (IntKind.u64.wrap (v + y))))) (by kernel_rfl) (by kernel_rfl) HS.out ?_ ?_
          · exact ⟨RS.StepOK.pure 124 (by kernel_rfl) rfl (fun w => by kernel_rfl),
              RS.StepOK.load 125 (.int .i64 idx) (by kernel_rfl) (by kernel_rfl) rfl (fun w hS => run_load rfl (by kernel_rfl) (load_cell (i := 3) (by kernel_rfl) hS.1.2.1 (by kernel_rfl))),
              RS.StepOK.pure 126 (by kernel_rfl) rfl (fun w => by kernel_rfl),
              RS.StepOK.load 127 (.bool false) (by kernel_rfl) (by kernel_rfl) rfl (fun w hS => run_bin rfl (by kernel_rfl) (by kernel_rfl) (by kernel_rfl) (eql_i64' hij w)), trivial⟩
          rintro w14 hs
          clear HS
          have HS := Aside0.mk hs
          clear hs
          (try simp only [RS.sets, List.setIfInBounds_toArray, List.set_cons_zero, List.set_cons_succ])
          go_upto_region 21 with (fail)
          refine RS.wp_text [(135, .int .i64 0), (136, .bool false), (137, .bool false), (138, .int .u64 (IntKind.u64.wrap (A + moreF base idx sc (j : Int) y))), (139, .int .u64 A), (140, .int .u64 (IntKind.u64.wrap y)), (141, .int .u64 (IntKind.u64.wrap (A + (IntKind.u64.wrap y)))), (142, .bool false), (143, .bool false)] (AdT w0 g0 g1 g2 cs (opC 2 R base idx sc dp im false) (cs.setIfInBounds j (.int .u64 (IntKind.u64.wrap (v + y))))) (by kernel_rfl) (by kernel_rfl) HS.out ?_ ?_
          · exact ⟨RS.StepOK.pure 135 (by kernel_rfl) rfl (fun w => by kernel_rfl),
              RS.StepOK.pure 136 (by kernel_rfl) rfl (fun w => by kernel_rfl),
              RS.StepOK.pure 137 (by kernel_rfl) rfl (fun w => by kernel_rfl),
              RS.StepOK.pure 138 (by kernel_rfl) rfl (fun w => by kernel_rfl),
              RS.StepOK.pure 139 (by kernel_rfl) rfl (fun w => by kernel_rfl),
              RS.StepOK.pure 140 (by kernel_rfl) rfl (fun w => by kernel_rfl),
              RS.StepOK.pure 141 (by kernel_rfl) rfl (fun w => by kernel_rfl),
              RS.StepOK.load 142 (.bool false) (by kernel_rfl) (by kernel_rfl) rfl (fun w hS => run_bin rfl (by kernel_rfl) (by kernel_rfl) (by kernel_rfl) (neq_word (x := (IntKind.u64.wrap (A + moreF base idx sc (j : Int) y))) (y := IntKind.u64.wrap (A + (IntKind.u64.wrap y))) (by unfold moreF; rw [if_neg hij, if_pos hbj] <;> simp only [IntKind.wrap_u64] <;> omega) w)),
              RS.StepOK.pure 143 (by kernel_rfl) rfl (fun w => by kernel_rfl), trivial⟩
          rintro w16 hs
          clear HS
          have HS := Aside0.mk hs
          clear hs
          (try simp only [RS.sets, List.setIfInBounds_toArray, List.set_cons_zero, List.set_cons_succ])
          go_wp2_with fail
          go_roundw
          case rel => exact ⟨j + 1, by omega, by go_num, HS.out.1⟩
          case measure => simp [RowKit.intOf]; omega
      · by_cases hij : idx = (j : Int)
        · go_upto_region 17 with (fail)
          refine RS.wp_text [(117, .pointer (some ⟨g1, 2, none⟩)), (118, .int .i64 base), (119, .int .i64 (j : Int)), (120, .bool false)] (AdT w0 g0 g1 g2 cs (opC 2 R base idx sc dp im false) (cs.setIfInBounds j (.int .u64 (IntKind.u64.wrap (v + y))))) (by kernel_rfl) (by kernel_rfl) HS.out ?_ ?_
          · exact ⟨RS.StepOK.pure 117 (by kernel_rfl) rfl (fun w => by kernel_rfl),
              RS.StepOK.load 118 (.int .i64 base) (by kernel_rfl) (by kernel_rfl) rfl (fun w hS => run_load rfl (by kernel_rfl) (load_cell (i := 2) (by kernel_rfl) hS.1.2.1 (by kernel_rfl))),
              RS.StepOK.pure 119 (by kernel_rfl) rfl (fun w => by kernel_rfl),
              RS.StepOK.load 120 (.bool false) (by kernel_rfl) (by kernel_rfl) rfl (fun w hS => run_bin rfl (by kernel_rfl) (by kernel_rfl) (by kernel_rfl) (eql_i64' hbj w)), trivial⟩
          rintro w12 hs
          clear HS
          have HS := Aside0.mk hs
          clear hs
          (try simp only [RS.sets, List.setIfInBounds_toArray, List.set_cons_zero, List.set_cons_succ])
          go_upto_region 19 with (fail)
          refine RS.wp_text [(124, .pointer (some ⟨g1, 3, none⟩)), (125, .int .i64 idx), (126, .int .i64 (j : Int)), (127, .bool true)] (AdT w0 g0 g1 g2 cs (opC 2 R base idx sc dp im false) (cs.setIfInBounds j (.int .u64 (IntKind.u64.wrap (v + y))))) (by kernel_rfl) (by kernel_rfl) HS.out ?_ ?_
          · exact ⟨RS.StepOK.pure 124 (by kernel_rfl) rfl (fun w => by kernel_rfl),
              RS.StepOK.load 125 (.int .i64 idx) (by kernel_rfl) (by kernel_rfl) rfl (fun w hS => run_load rfl (by kernel_rfl) (load_cell (i := 3) (by kernel_rfl) hS.1.2.1 (by kernel_rfl))),
              RS.StepOK.pure 126 (by kernel_rfl) rfl (fun w => by kernel_rfl),
              RS.StepOK.load 127 (.bool true) (by kernel_rfl) (by kernel_rfl) rfl (fun w hS => run_bin rfl (by kernel_rfl) (by kernel_rfl) (by kernel_rfl) (eql_i64 hij w)), trivial⟩
          rintro w14 hs
          clear HS
          have HS := Aside0.mk hs
          clear hs
          (try simp only [RS.sets, List.setIfInBounds_toArray, List.set_cons_zero, List.set_cons_succ])
          have q4 : w14.cell? ⟨g1, 4, none⟩ = some (.int .i64 sc) := by rw [bC_ HS.out.1.2.1]; rfl
          go_upto_region 21 with (fail)
          clear q4
          refine RS.wp_text [(135, .int .i64 0), (136, .bool false), (137, .bool false), (138, .int .u64 (IntKind.u64.wrap (A + moreF base idx sc (j : Int) y))), (139, .int .u64 A), (140, .int .u64 (IntKind.u64.wrap (IntKind.u64.wrap (y * IntKind.u64.wrap sc)))), (141, .int .u64 (IntKind.u64.wrap (A + (IntKind.u64.wrap (IntKind.u64.wrap (y * IntKind.u64.wrap sc)))))), (142, .bool false), (143, .bool false)] (AdT w0 g0 g1 g2 cs (opC 2 R base idx sc dp im false) (cs.setIfInBounds j (.int .u64 (IntKind.u64.wrap (v + y))))) (by kernel_rfl) (by kernel_rfl) HS.out ?_ ?_
          · exact ⟨RS.StepOK.pure 135 (by kernel_rfl) rfl (fun w => by kernel_rfl),
              RS.StepOK.pure 136 (by kernel_rfl) rfl (fun w => by kernel_rfl),
              RS.StepOK.pure 137 (by kernel_rfl) rfl (fun w => by kernel_rfl),
              RS.StepOK.pure 138 (by kernel_rfl) rfl (fun w => by kernel_rfl),
              RS.StepOK.pure 139 (by kernel_rfl) rfl (fun w => by kernel_rfl),
              RS.StepOK.pure 140 (by kernel_rfl) rfl (fun w => by kernel_rfl),
              RS.StepOK.pure 141 (by kernel_rfl) rfl (fun w => by kernel_rfl),
              RS.StepOK.load 142 (.bool false) (by kernel_rfl) (by kernel_rfl) rfl (fun w hS => run_bin rfl (by kernel_rfl) (by kernel_rfl) (by kernel_rfl) (neq_word (x := (IntKind.u64.wrap (A + moreF base idx sc (j : Int) y))) (y := IntKind.u64.wrap (A + (IntKind.u64.wrap (IntKind.u64.wrap (y * IntKind.u64.wrap sc))))) (by unfold moreF; rw [if_pos hij, if_neg hbj] <;> simp only [IntKind.wrap_u64] <;> omega) w)),
              RS.StepOK.pure 143 (by kernel_rfl) rfl (fun w => by kernel_rfl), trivial⟩
          rintro w16 hs
          clear HS
          have HS := Aside0.mk hs
          clear hs
          (try simp only [RS.sets, List.setIfInBounds_toArray, List.set_cons_zero, List.set_cons_succ])
          go_wp2_with fail
          go_roundw
          case rel => exact ⟨j + 1, by omega, by go_num, HS.out.1⟩
          case measure => simp [RowKit.intOf]; omega
        · go_upto_region 17 with (fail)
          refine RS.wp_text [(117, .pointer (some ⟨g1, 2, none⟩)), (118, .int .i64 base), (119, .int .i64 (j : Int)), (120, .bool false)] (AdT w0 g0 g1 g2 cs (opC 2 R base idx sc dp im false) (cs.setIfInBounds j (.int .u64 (IntKind.u64.wrap (v + y))))) (by kernel_rfl) (by kernel_rfl) HS.out ?_ ?_
          · exact ⟨RS.StepOK.pure 117 (by kernel_rfl) rfl (fun w => by kernel_rfl),
              RS.StepOK.load 118 (.int .i64 base) (by kernel_rfl) (by kernel_rfl) rfl (fun w hS => run_load rfl (by kernel_rfl) (load_cell (i := 2) (by kernel_rfl) hS.1.2.1 (by kernel_rfl))),
              RS.StepOK.pure 119 (by kernel_rfl) rfl (fun w => by kernel_rfl),
              RS.StepOK.load 120 (.bool false) (by kernel_rfl) (by kernel_rfl) rfl (fun w hS => run_bin rfl (by kernel_rfl) (by kernel_rfl) (by kernel_rfl) (eql_i64' hbj w)), trivial⟩
          rintro w12 hs
          clear HS
          have HS := Aside0.mk hs
          clear hs
          (try simp only [RS.sets, List.setIfInBounds_toArray, List.set_cons_zero, List.set_cons_succ])
          go_upto_region 19 with (fail)
          refine RS.wp_text [(124, .pointer (some ⟨g1, 3, none⟩)), (125, .int .i64 idx), (126, .int .i64 (j : Int)), (127, .bool false)] (AdT w0 g0 g1 g2 cs (opC 2 R base idx sc dp im false) (cs.setIfInBounds j (.int .u64 (IntKind.u64.wrap (v + y))))) (by kernel_rfl) (by kernel_rfl) HS.out ?_ ?_
          · exact ⟨RS.StepOK.pure 124 (by kernel_rfl) rfl (fun w => by kernel_rfl),
              RS.StepOK.load 125 (.int .i64 idx) (by kernel_rfl) (by kernel_rfl) rfl (fun w hS => run_load rfl (by kernel_rfl) (load_cell (i := 3) (by kernel_rfl) hS.1.2.1 (by kernel_rfl))),
              RS.StepOK.pure 126 (by kernel_rfl) rfl (fun w => by kernel_rfl),
              RS.StepOK.load 127 (.bool false) (by kernel_rfl) (by kernel_rfl) rfl (fun w hS => run_bin rfl (by kernel_rfl) (by kernel_rfl) (by kernel_rfl) (eql_i64' hij w)), trivial⟩
          rintro w14 hs
          clear HS
          have HS := Aside0.mk hs
          clear hs
          (try simp only [RS.sets, List.setIfInBounds_toArray, List.set_cons_zero, List.set_cons_succ])
          go_upto_region 21 with (fail)
          refine RS.wp_text [(135, .int .i64 0), (136, .bool false), (137, .bool false), (138, .int .u64 (IntKind.u64.wrap (A + moreF base idx sc (j : Int) y))), (139, .int .u64 A), (140, .int .u64 0), (141, .int .u64 (IntKind.u64.wrap (A + 0))), (142, .bool false), (143, .bool false)] (AdT w0 g0 g1 g2 cs (opC 2 R base idx sc dp im false) (cs.setIfInBounds j (.int .u64 (IntKind.u64.wrap (v + y))))) (by kernel_rfl) (by kernel_rfl) HS.out ?_ ?_
          · exact ⟨RS.StepOK.pure 135 (by kernel_rfl) rfl (fun w => by kernel_rfl),
              RS.StepOK.pure 136 (by kernel_rfl) rfl (fun w => by kernel_rfl),
              RS.StepOK.pure 137 (by kernel_rfl) rfl (fun w => by kernel_rfl),
              RS.StepOK.pure 138 (by kernel_rfl) rfl (fun w => by kernel_rfl),
              RS.StepOK.pure 139 (by kernel_rfl) rfl (fun w => by kernel_rfl),
              RS.StepOK.pure 140 (by kernel_rfl) rfl (fun w => by kernel_rfl),
              RS.StepOK.pure 141 (by kernel_rfl) rfl (fun w => by kernel_rfl),
              RS.StepOK.load 142 (.bool false) (by kernel_rfl) (by kernel_rfl) rfl (fun w hS => run_bin rfl (by kernel_rfl) (by kernel_rfl) (by kernel_rfl) (neq_word (x := (IntKind.u64.wrap (A + moreF base idx sc (j : Int) y))) (y := IntKind.u64.wrap (A + 0)) (by unfold moreF; rw [if_neg hij, if_neg hbj] <;> simp only [IntKind.wrap_u64] <;> omega) w)),
              RS.StepOK.pure 143 (by kernel_rfl) rfl (fun w => by kernel_rfl), trivial⟩
          rintro w16 hs
          clear HS
          have HS := Aside0.mk hs
          clear hs
          (try simp only [RS.sets, List.setIfInBounds_toArray, List.set_cons_zero, List.set_cons_succ])
          go_wp2_with fail
          go_roundw
          case rel => exact ⟨j + 1, by omega, by go_num, HS.out.1⟩
          case measure => simp [RowKit.intOf]; omega
    · obtain rfl : j = 16 := by omega
      go_wp2_with (first | (go_at_call 6; refine (wakes_calls _ HS.out.2.2.1).mono ?_; rintro e w18 ⟨rfl, hb⟩))
      go_ret
      exact ⟨rfl, below_step HS.out.2.2.2 hb⟩
end Go.Proofs.YtpmclnlgipphmaaDoor.B
namespace Go.Proofs.YtpmclnlgipphmaaDoor.B
open Go.RowKit Go.Proofs.YtpmclnlgipphmaaDoorW.PrintWords Go.Proofs.YtpmclnlgipphmaaDoorW.PrintMore Go.RF
set_option linter.unusedVariables false
set_option linter.unusedSimpArgs false
end Go.Proofs.YtpmclnlgipphmaaDoor.B
namespace Go.Proofs.YtpmclnlgipphmaaDoor.B
open Go.RowKit Go.Proofs.YtpmclnlgipphmaaDoorW.PrintWords Go.Proofs.YtpmclnlgipphmaaDoorW.PrintMore Go.RF
set_option linter.unusedVariables false
set_option linter.unusedSimpArgs false
end Go.Proofs.YtpmclnlgipphmaaDoor.B
namespace Go.Proofs.YtpmclnlgipphmaaDoor.B
open Go.RowKit Go.Proofs.YtpmclnlgipphmaaDoorW.PrintWords Go.Proofs.YtpmclnlgipphmaaDoorW.PrintMore Go.RF
set_option linter.unusedVariables false
set_option linter.unusedSimpArgs false
def GoodCpu (cs : Array Value) : Prop := cs.size = 278 ∧ (∀ k, k < 16 → ∃ n : Int, cs[k]? = some (.int .u64 n) ∧ 0 ≤ n ∧ n < 18446744073709551616) ∧ (∀ k, k < 256 → ∃ n : Int, cs[16 + k]? = some (.int .u8 n)) ∧
  (∃ C Z S O P : Bool, cs[272]? = some (.bool C) ∧ cs[273]? = some (.bool Z) ∧ cs[274]? = some (.bool S) ∧ cs[275]? = some (.bool O) ∧ cs[276]? = some (.bool P)) ∧ ∃ n : Int, cs[277]? = some (.int .u64 n)
theorem GoodCpu.cells {cs : Array Value} (h : GoodCpu cs) : cs.all (·.oneCell') = true := by
  obtain ⟨hsz, hR, hX, ⟨C, Z, S, O, P, f0, f1, f2, f3, f4⟩, ip, hip⟩ := h
  rw [Array.all_eq_true]
  intro i hi
  have key : ∀ v, cs[i]? = some v → v.oneCell' = true → (cs[i]).oneCell' = true := fun v h1 h2 => by
    rw [Array.getElem?_eq_getElem hi] at h1
    rw [Option.some.inj h1]; exact h2
  by_cases h1 : i < 16
  · obtain ⟨n, hn, _⟩ := hR i h1
    exact key _ hn rfl
  by_cases h2 : i < 272
  · obtain ⟨n, hn⟩ := hX (i - 16) (by omega)
    rw [show 16 + (i - 16) = i by omega] at hn
    exact key _ hn rfl
  by_cases e0 : i = 272
  · subst e0; exact key _ f0 rfl
  by_cases e1 : i = 273
  · subst e1; exact key _ f1 rfl
  by_cases e2 : i = 274
  · subst e2; exact key _ f2 rfl
  by_cases e3 : i = 275
  · subst e3; exact key _ f3 rfl
  by_cases e4 : i = 276
  · subst e4; exact key _ f4 rfl
  by_cases e5 : i = 277
  · subst e5; exact key _ hip rfl
  omega
end Go.Proofs.YtpmclnlgipphmaaDoor.B
namespace Go.Proofs.YtpmclnlgipphmaaDoor.B
open Go.RowKit Go.ChangeShapes Go.WideShapes Go.ChangeAt
set_option linter.unusedVariables false
theorem globalHolds : Tryd.prog.globalNamed "sundial/cpu.holds" = some 0 := by kernel_rfl
theorem typeHolds : (Tryd.prog.globals[0]?).map (·.type) = some 54 := by kernel_rfl
theorem tableHolds : Tryd.prog.underlying 54 = some (.array 8 53) := by kernel_rfl
theorem cellsHolds : Tryd.prog.cellsOf 53 = 1 := by kernel_rfl
theorem cellsTable : Tryd.prog.cellsOf 54 = 8 := by kernel_rfl
theorem door_met (os : Os) (args : Array Value) : laidMetH Tryd.prog [("sundial/cpu.holds", Rows.laid_sundial_cpu_holds)] ((World.doorLaid Tryd.prog 600 os).forCall (fun _ _ => 0) ⟨#[], args, []⟩).memory :=
  laidMetH_of_parts3 (fuel := 8) (laidMet_of_run' 8 (by kernel_rfl) (by kernel_rfl)) (by kernel_rfl) (by kernel_rfl)
def heldNames : List (DataW (List UInt8)) := [.held [115, 117, 110, 100, 105, 97, 108, 47, 99, 112, 117, 46, 104, 111, 108, 100, 115, 36, 49], .held [115, 117, 110, 100, 105, 97, 108, 47, 99, 112, 117, 46, 104, 111, 108, 100, 115, 36, 50], .held [115, 117, 110, 100, 105, 97, 108, 47, 99, 112, 117, 46, 104, 111, 108, 100, 115, 36, 51], .held [115, 117, 110, 100, 105, 97, 108, 47, 99, 112, 117, 46, 104, 111, 108, 100, 115, 36, 52], .held [115, 117, 110, 100, 105, 97, 108, 47, 99, 112, 117, 46, 104, 111, 108, 100, 115, 36, 53], .held [115, 117, 110, 100, 105, 97, 108, 47, 99, 112, 117, 46, 104, 111, 108, 100, 115, 36, 54], .held [115, 117, 110, 100, 105, 97, 108, 47, 99, 112, 117, 46, 104, 111, 108, 100, 115, 36, 55], .held [115, 117, 110, 100, 105, 97, 108, 47, 99, 112, 117, 46, 104, 111, 108, 100, 115, 36, 56]]
theorem laid_of {W : World} (h : laidMetH Tryd.prog [("sundial/cpu.holds", Rows.laid_sundial_cpu_holds)] W) : Tab W := by
  obtain ⟨g, t, cs, fuel, p, hg, ht, hv, hd⟩ := h.funcs (List.mem_singleton.2 rfl)
  obtain rfl := Option.some.inj (globalHolds.symm.trans hg)
  obtain rfl := Option.some.inj (typeHolds.symm.trans ht)
  have hd' : DataW.trod (funcToken Tryd.prog) Tryd.prog W 0 (fun _ => true) true fuel 54 cs.toList = some (.agg heldNames, p) := hd
  obtain ⟨xs, n, rfl, hx, hcl, hxl, hF⟩ := DataW.trod_array tableHolds hd'
  injection hx with hx1 _
  injection hx1 with hx1
  rw [cellsTable] at hcl
  have key : ∀ (i : Nat) (b : UInt8) (r : List UInt8) (f0 : Nat), i < 8 → heldNames[i]? = some (.held (b :: r)) → ((List.range Tryd.prog.funcs.size).filter fun f => (Tryd.prog.funcs[f]?).any (·.name.toUTF8.data.toList == b :: r)) = [f0] →
      W.cell? ⟨0, i, none⟩ = some (.func (.func f0) #[] #[]) := by
    intro i b r f0 hi hn hone
    have hi2 : i < cs.toList.length := by omega
    have h1 := hF i hi
    rw [cellsHolds, Nat.mul_one] at h1
    have hdrop : (cs.toList.drop i).take 1 = [cs.toList[i]] := by
      rw [List.drop_eq_getElem_cons hi2]; rfl
    rw [hdrop] at h1
    have hxi : xs[i]? = some xs[i] := List.getElem?_eq_getElem (by omega)
    rw [hxi] at h1
    have hq : xs[i].1 = .held (b :: r) := by
      rw [hx1, List.getElem?_map, hxi] at hn
      simpa using hn
    have h2 : DataW.trod (funcToken Tryd.prog) Tryd.prog W 0 (fun _ => true) true n 53 [cs.toList[i]] = some (.held (b :: r), xs[i].2) := by rw [h1, ← hq]
    have h3 := func_of_trod Tryd.underlying53 hone h2
    have h4 := World.var?_cell hg hv i
    rw [h4]
    rw [Array.getElem_toList] at h3
    rw [Array.getElem?_eq_getElem (by simpa using hi2), h3]
  exact ⟨key 0 _ _ 41 (by decide) rfl (by kernel_rfl), key 1 _ _ 42 (by decide) rfl (by kernel_rfl), key 2 _ _ 43 (by decide) rfl (by kernel_rfl), key 3 _ _ 44 (by decide) rfl (by kernel_rfl), key 4 _ _ 45 (by decide) rfl (by kernel_rfl), key 5 _ _ 46 (by decide) rfl (by kernel_rfl), key 6 _ _ 47 (by decide) rfl (by kernel_rfl), key 7 _ _ 48 (by decide) rfl (by kernel_rfl)⟩
end Go.Proofs.YtpmclnlgipphmaaDoor.B
namespace Go.Proofs.YtpmclnlgipphmaaDoor.B
open Go.RowKit Go.ChangeShapes Go.WideShapes Go.ChangeAt
set_option linter.unusedVariables false
theorem wf_u64 {x : Int} (h : (Lit.int .u64 x).wf = true) : 0 ≤ x ∧ x < 18446744073709551616 := by
  have h' : IntKind.u64.min ≤ x ∧ x ≤ IntKind.u64.max := by simpa [Lit.wf] using h
  have e1 : IntKind.u64.min = 0 := rfl
  have e2 : IntKind.u64.max = 18446744073709551615 := rfl
  omega
section
variable {H : Type} {enc : TypeId × Value → H} {w : World} {base : Nat} {spare : Nat → Bool} {held : Bool}
theorem take_one {l : List Value} {o : Nat} (h : o < l.length) : (l.drop o).take 1 = [l[o]] := by
  rw [List.drop_eq_getElem_cons h]; rfl
theorem arr_ints {fuel n : Nat} {t e : TypeId} {k : IntKind} {cs : List Value} {x : DataW H × List MemPlace} (ht : Tryd.prog.underlying t = some (.array n e)) (he : Tryd.prog.underlying e = some (.int k)) (hce : Tryd.prog.cellsOf e = 1) (hct : Tryd.prog.cellsOf t = n)
    (h : DataW.trod enc Tryd.prog w base spare held fuel t cs = some x) (i : Nat) (hi : i < n) : ∃ z, cs[i]? = some (.int k z) ∧ (Lit.int k z).wf = true := by
  obtain ⟨xs, m, rfl, _, hcl, hxl, hF⟩ := DataW.trod_array ht h
  rw [hct] at hcl
  have h1 := hF i hi
  rw [hce, Nat.mul_one, take_one (by omega), List.getElem?_eq_getElem (by omega)] at h1
  obtain ⟨z, hz, _, hw⟩ := DataW.trod_int he h1
  injection hz with hz
  exact ⟨z, by rw [List.getElem?_eq_getElem (by omega), hz], hw⟩
theorem cut_at {l : List Value} {o n i : Nat} (hi : i < n) : ((l.drop o).take n)[i]? = l[o + i]? := by
  rw [List.getElem?_take, if_pos hi, List.getElem?_drop]
theorem ag_cpu {v : Value} {d : DataW H} {ps : List MemPlace} (hv : ∃ cs, v = .agg cs ∧ cs.size = Tryd.prog.cellsOf 29) (h : DataW.Trod enc Tryd.prog w base spare held 29 v d ps) : ∃ cs, v = .agg cs ∧ GoodCpu cs := by
  obtain ⟨⟨cs⟩, rfl, hsz⟩ := hv
  have hsz' : cs.length = 278 := hsz.trans (by kernel_rfl)
  obtain ⟨fuel, hf⟩ := h
  obtain ⟨xs, n, rfl, _, hcl, hxl, hF⟩ := DataW.trod_struct Tryd.underlying29 hf
  have hxl' : xs.length = 4 := hxl
  match xs, hxl' with
  | [y0, y1, y2, y3], _ =>
    have g0 : DataW.trod enc Tryd.prog w base spare held n 23 ((cs.drop 0).take (Tryd.prog.cellsOf 23)) = some y0 := hF 0 _ rfl
    have g1 : DataW.trod enc Tryd.prog w base spare held n 25 ((cs.drop 16).take (Tryd.prog.cellsOf 25)) = some y1 := hF 1 _ rfl
    have g2 : DataW.trod enc Tryd.prog w base spare held n 27 ((cs.drop 272).take (Tryd.prog.cellsOf 27)) = some y2 := hF 2 _ rfl
    have g3 : DataW.trod enc Tryd.prog w base spare held n 22 ((cs.drop 277).take (Tryd.prog.cellsOf 22)) = some y3 := hF 3 _ rfl
    have c23 : Tryd.prog.cellsOf 23 = 16 := by kernel_rfl
    have c25 : Tryd.prog.cellsOf 25 = 256 := by kernel_rfl
    have c24 : Tryd.prog.cellsOf 24 = 16 := by kernel_rfl
    have c27 : Tryd.prog.cellsOf 27 = 5 := by kernel_rfl
    have c22 : Tryd.prog.cellsOf 22 = 1 := by kernel_rfl
    have c5 : Tryd.prog.cellsOf 5 = 1 := by kernel_rfl
    have u23 : Tryd.prog.underlying 23 = some (.array 16 22) := by kernel_rfl
    have u25 : Tryd.prog.underlying 25 = some (.array 16 24) := by kernel_rfl
    have u24 : Tryd.prog.underlying 24 = some (.array 16 5) := by kernel_rfl
    rw [c23] at g0
    rw [c25] at g1
    rw [c27] at g2
    rw [c22, take_one (by omega)] at g3
    refine ⟨⟨cs⟩, rfl, hsz', fun k hk => ?_, fun k hk => ?_, ?_, ?_⟩
    · obtain ⟨z, hz, hw⟩ := arr_ints u23 Tryd.underlying22 c22 c23 g0 k hk
      rw [cut_at hk, Nat.zero_add] at hz
      have := wf_u64 hw
      exact ⟨z, by simpa using hz, this.1, this.2⟩
    · obtain ⟨zs, m, rfl, _, hcl2, hzl, hG⟩ := DataW.trod_array u25 g1
      have h1 := hG (k / 16) (by omega)
      rw [c24, List.getElem?_eq_getElem (by omega)] at h1
      obtain ⟨z, hz, _⟩ := arr_ints u24 Tryd.underlying5 c5 c24 h1 (k % 16) (by omega)
      rw [cut_at (by omega), List.getElem?_take, if_pos (by omega), List.getElem?_drop] at hz
      rw [show 16 + (k / 16 * 16 + k % 16) = 16 + k by omega] at hz
      exact ⟨z, by simpa using hz⟩
    · obtain ⟨zs, m, rfl, _, hcl2, hzl, hG⟩ := DataW.trod_struct Tryd.underlying27 g2
      have hzl' : zs.length = 5 := hzl
      match zs, hzl' with
      | [z0, z1, z2, z3, z4], _ =>
        have c4 : Tryd.prog.cellsOf 4 = 1 := by kernel_rfl
        have l5 : ((cs.drop 272).take 5).length = 5 := by simp [hsz']
        have e0 : DataW.trod enc Tryd.prog w base spare held m 4 ((((cs.drop 272).take 5).drop 0).take (Tryd.prog.cellsOf 4)) = some z0 := hG 0 _ rfl
        have e1 : DataW.trod enc Tryd.prog w base spare held m 4 ((((cs.drop 272).take 5).drop 1).take (Tryd.prog.cellsOf 4)) = some z1 := hG 1 _ rfl
        have e2 : DataW.trod enc Tryd.prog w base spare held m 4 ((((cs.drop 272).take 5).drop 2).take (Tryd.prog.cellsOf 4)) = some z2 := hG 2 _ rfl
        have e3 : DataW.trod enc Tryd.prog w base spare held m 4 ((((cs.drop 272).take 5).drop 3).take (Tryd.prog.cellsOf 4)) = some z3 := hG 3 _ rfl
        have e4 : DataW.trod enc Tryd.prog w base spare held m 4 ((((cs.drop 272).take 5).drop 4).take (Tryd.prog.cellsOf 4)) = some z4 := hG 4 _ rfl
        rw [c4, take_one (by omega)] at e0 e1 e2 e3 e4
        have key : ∀ (j : Nat) (hj : j < ((cs.drop 272).take 5).length) (z : DataW H × List MemPlace), DataW.trod enc Tryd.prog w base spare held m 4 [((cs.drop 272).take 5)[j]] = some z → ∃ b, cs[272 + j]? = some (.bool b) := by
          intro j hj z hz
          obtain ⟨b, hb, _⟩ := DataW.trod_bool Tryd.underlying4 hz
          injection hb with hb
          refine ⟨b, ?_⟩
          rw [← cut_at (n := 5) (by omega), List.getElem?_eq_getElem hj, hb]
        obtain ⟨b0, h0⟩ := key 0 (by omega) _ e0
        obtain ⟨b1, h1⟩ := key 1 (by omega) _ e1
        obtain ⟨b2, h2⟩ := key 2 (by omega) _ e2
        obtain ⟨b3, h3⟩ := key 3 (by omega) _ e3
        obtain ⟨b4, h4⟩ := key 4 (by omega) _ e4
        exact ⟨b0, b1, b2, b3, b4, by simpa using h0, by simpa using h1, by simpa using h2, by simpa using h3, by simpa using h4⟩
    · obtain ⟨z, hz, _, hw⟩ := DataW.trod_int Tryd.underlying22 g3
      injection hz with hz
      refine ⟨z, ?_⟩
      have : cs[277]? = some (.int .u64 z) := by rw [List.getElem?_eq_getElem (by omega), hz]
      simpa using this
end
end Go.Proofs.YtpmclnlgipphmaaDoor.B
namespace Go.Proofs.YtpmclnlgipphmaaDoor.B
open Go.RowKit Go.ChangeShapes Go.WideShapes Go.ChangeAt
set_option linter.unusedVariables false
def GoodOp (k R base idx sc dp im : Int) : Prop := (Lit.int .u8 k).wf = true ∧ (Lit.int .i64 R).wf = true ∧ (Lit.int .i64 base).wf = true ∧ (Lit.int .i64 idx).wf = true ∧ (Lit.int .i64 sc).wf = true ∧ (Lit.int .i64 dp).wf = true ∧ (Lit.int .i64 im).wf = true
theorem st_operand {H : Type} {enc : TypeId × Value → H} {w : World} {base : Nat} {spare : Nat → Bool} {held : Bool} {v : Value} {d : DataW H} {ps : List MemPlace} (hv : ∃ cs, v = .agg cs ∧ cs.size = Tryd.prog.cellsOf 36) (h : DataW.Trod enc Tryd.prog w base spare held 36 v d ps) :
    ∃ k R b i s dp rip im, v = .agg #[.int .u8 k, .int .i64 R, .int .i64 b, .int .i64 i, .int .i64 s, .int .i64 dp, .bool rip, .int .i64 im] ∧ GoodOp k R b i s dp im := by
  obtain ⟨⟨cs⟩, rfl, hsz⟩ := hv
  have hsz' : cs.length = 8 := hsz
  obtain ⟨fuel, hf⟩ := h
  obtain ⟨xs, n, rfl, _, hcl, hxl, hF⟩ := DataW.trod_struct Tryd.underlying36 hf
  have hxl' : xs.length = 8 := hxl
  match cs, hsz', xs, hxl' with
  | [v0, v1, v2, v3, v4, v5, v6, v7], _, [y0, y1, y2, y3, y4, y5, y6, y7], _ =>
    have g0' : DataW.trod enc Tryd.prog w base spare held n 5 [v0] = some y0 := hF 0 _ rfl
    have g1' : DataW.trod enc Tryd.prog w base spare held n 3 [v1] = some y1 := hF 1 _ rfl
    have g2' : DataW.trod enc Tryd.prog w base spare held n 3 [v2] = some y2 := hF 2 _ rfl
    have g3' : DataW.trod enc Tryd.prog w base spare held n 3 [v3] = some y3 := hF 3 _ rfl
    have g4' : DataW.trod enc Tryd.prog w base spare held n 3 [v4] = some y4 := hF 4 _ rfl
    have g5' : DataW.trod enc Tryd.prog w base spare held n 2 [v5] = some y5 := hF 5 _ rfl
    have g6' : DataW.trod enc Tryd.prog w base spare held n 4 [v6] = some y6 := hF 6 _ rfl
    have g7' : DataW.trod enc Tryd.prog w base spare held n 2 [v7] = some y7 := hF 7 _ rfl
    obtain ⟨a0, h0, _, w0⟩ := DataW.trod_int Tryd.underlying5 g0'
    obtain ⟨a1, h1, _, w1⟩ := DataW.trod_int Tryd.underlying3 g1'
    obtain ⟨a2, h2, _, w2⟩ := DataW.trod_int Tryd.underlying3 g2'
    obtain ⟨a3, h3, _, w3⟩ := DataW.trod_int Tryd.underlying3 g3'
    obtain ⟨a4, h4, _, w4⟩ := DataW.trod_int Tryd.underlying3 g4'
    obtain ⟨a5, h5, _, w5⟩ := DataW.trod_int Tryd.underlying2 g5'
    obtain ⟨a6, h6, _⟩ := DataW.trod_bool Tryd.underlying4 g6'
    obtain ⟨a7, h7, _, w7⟩ := DataW.trod_int Tryd.underlying2 g7'
    injection h0 with h0; injection h1 with h1; injection h2 with h2; injection h3 with h3; injection h4 with h4; injection h5 with h5; injection h6 with h6; injection h7 with h7
    subst h0; subst h1; subst h2; subst h3; subst h4; subst h5; subst h6; subst h7
    exact ⟨a0, a1, a2, a3, a4, a5, a6, a7, rfl, w0, w1, w2, w3, w4, w5, w7⟩
theorem addr_calls (cs : Array Value) (k R base idx sc dp im nx y : Int) (rip : Bool) (w : World) (hT : Tab w) (hG : GoodCpu cs) :
    Calls Tryd.prog 4 #[.agg cs, .agg (opC k R base idx sc dp im rip), .int .u64 nx, .int .u64 y] w fun e w' => e = .returned (.bool true) ∧ Below w.heap.size w w' := by
  have h1c := hG.cells
  obtain ⟨hsz, hR, -⟩ := hG
  by_cases hk : k = 2
  · subst hk
    cases hr : rightF 2 R base idx sc dp rip im with
    | false => exact adr_not cs R base idx sc dp im nx y rip w hsz hT hr
    | true =>
      have hP := (rightF_iff 2 R base idx sc dp rip im).1 hr
      have hx : ∀ b : Int, b < 16 → ∃ x : Int, 0 ≤ b → cs[b.toNat]? = some (.int .u64 x) := fun b hb => by
        by_cases h0 : 0 ≤ b
        · obtain ⟨n, hn, _⟩ := hR b.toNat (by omega)
          exact ⟨n, fun _ => hn⟩
        · exact ⟨0, fun h => absurd h h0⟩
      unfold RightP at hP
      rcases hP with ⟨h, -⟩ | ⟨-, -, -, -, ⟨rfl, hb, hi, hsc⟩ | ⟨rfl, h1, h2, h3, h4, h5, h6⟩⟩
      · exact absurd h (by decide)
      · obtain ⟨xb, hxb⟩ := hx base (by omega)
        obtain ⟨xi, hxi⟩ := hx idx (by omega)
        exact adr_rip cs R base idx sc dp im nx y xb xi w hsz h1c hR hT hr (by omega) (by omega) hxb hxi hb hi hsc
      · obtain ⟨xb, hxb⟩ := hx base h2
        obtain ⟨xi, hxi⟩ := hx idx h4
        by_cases h : 0 ≤ base ∨ 0 ≤ idx
        · exact adr_some cs R base idx sc dp im nx y xb xi w hsz h1c hR hT hr h2 h4 hxb hxi h
        · exact adr_none cs R base idx sc dp im nx y xb xi w hsz h1c hR hT hr h2 h4 hxb hxi (by omega) (by omega)
  · exact adr_kind cs k R base idx sc dp im nx y rip w hsz hT hk
open Classical in
noncomputable def sundiallaw14_CpuAddress.f (cs : Array Value) (_k _R _base _idx _sc _dp : Int) (_rip : Bool) (_im _nx _y : Int) : Option Bool := if GoodCpu cs then some true else none
theorem sundiallaw14_CpuAddress.calls (cs : Array Value) (k R base idx sc dp : Int) (rip : Bool) (im nx y : Int) (b : Bool) (w : World) (hT : Tab w) (h : sundiallaw14_CpuAddress.f cs k R base idx sc dp rip im nx y = some b) :
    Calls Tryd.prog 4 #[.agg cs, .agg #[.int .u8 k, .int .i64 R, .int .i64 base, .int .i64 idx, .int .i64 sc, .int .i64 dp, .bool rip, .int .i64 im], .int .u64 nx, .int .u64 y] w fun e w' => e = .returned (.bool b) ∧ Below w.heap.size w w' := by
  unfold sundiallaw14_CpuAddress.f at h
  by_cases hc : GoodCpu cs
  · rw [if_pos hc] at h
    obtain rfl := Option.some.inj h
    exact addr_calls cs k R base idx sc dp im nx y rip w hT hc
  · rw [if_neg hc] at h
    cases h
theorem Pure.CpuAddress (cs : Array Value) (k R base idx sc dp : Int) (rip : Bool) (im nx y : Int) (hg : GoodCpu cs) (_ : GoodOp k R base idx sc dp im) (w1 : (Lit.int .u64 nx).wf = true) (w2 : (Lit.int .u64 y).wf = true) : sundiallaw14_CpuAddress.f cs k R base idx sc dp rip im nx y = some true := if_pos hg
end Go.Proofs.YtpmclnlgipphmaaDoor.B
