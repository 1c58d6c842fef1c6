/- The law CpuAddress, walked along its one true way. The law CpuAddress, walked along its one true way. -/
import Derived.Test.YtpmclnlgipphmaaDoorAq12
import Derived.Test.YtpmclnlgipphmaaDoorAq7
namespace Go.Proofs.YtpmclnlgipphmaaDoor.B
open Go.RowKit Go.Proofs.YtpmclnlgipphmaaDoorW.PrintWords Go.Proofs.YtpmclnlgipphmaaDoorW.PrintMore Go.RF
set_option linter.unusedVariables false
set_option linter.unusedSimpArgs false
set_option maxHeartbeats 8000000 in
set_option maxRecDepth 100000 in
theorem adr_kind (cs : Array Value) (k R base idx sc dp im nx y : Int) (rip : Bool) (w0 : World) (hsz : cs.size = 278) (hT : Tab w0) (hk : k ≠ 2) :
    Calls Tryd.prog 4 #[.agg cs, .agg (opC k R base idx sc dp im rip), .int .u64 nx, .int .u64 y] w0 fun e w' => e = .returned (.bool true) ∧ Below w0.heap.size w0 w' := by
  have HK := Aside0.mk hk
  have hk' : (k != 2) = true := bne_iff_ne.2 hk
  clear hk
  have hu29 := Tryd.underlying29
  have hu36 := Tryd.underlying36
  have HSZ := Aside0.mk hsz
  have hs : AdS w0 w0.heap.size (w0.heap.size + 1) cs (opC k R base idx sc dp im rip) ((w0.alloc (.cells cs 29)).alloc (.cells (opC k R base idx sc dp im rip) 36)) := by
    have hb : Below w0.heap.size w0 ((w0.alloc (.cells cs 29)).alloc (.cells (opC k R base idx sc dp im rip) 36)) := bX_ (bX_ (Below.refl _ _) _) _
    refine ⟨(Below.heap_alloc _ _ _ (by simp)).trans (World.alloc_heap_new w0 _), ?_, hT.below hb, hb⟩
    have h := World.alloc_heap_new (w0.alloc (.cells cs 29)) (.cells (opC k R base idx sc dp im rip) 36)
    rwa [World.size_alloc] at h
  have HS := Aside0.mk hs
  clear hs hT hsz
  go_enter Tryd.func4, Tryd.ntmps4
  go_upto_region 1 with (fail)
  generalize (w0.alloc (.cells cs 29)).alloc (.cells (opC k R base idx sc dp im rip) 36) = w1 at *
  obtain ⟨g0, hg0⟩ : ∃ g, w0.heap.size = g := ⟨_, rfl⟩
  rw [hg0] at HS
  (try rw [hg0])
  obtain ⟨g1, hg1⟩ : ∃ g, g0 + 1 = g := ⟨_, rfl⟩
  rw [hg1] at HS
  (try rw [hg1])
  have HG0 := Aside0.mk hg0
  have HG1 := Aside0.mk hg1
  clear hg0 hg1
  refine RS.wp_text [(20, .agg cs), (21, .agg (opC k R base idx sc dp im rip)), (22, .int .u64 nx), (23, .tuple #[.int .u64 0, .int .i64 2]), (19, .tuple #[.int .u64 0, .int .i64 2]), (24, .int .u64 0), (25, .int .i64 2), (9, .int .u64 0), (10, .int .i64 2)] (AdS w0 g0 g1 cs (opC k R base idx sc dp im rip)) (by kernel_rfl) (by kernel_rfl) HS.out ?_ ?_
  · exact ⟨RS.StepOK.load 20 (.agg cs) (by kernel_rfl) (by kernel_rfl) rfl (fun w hS => run_load rfl (by kernel_rfl) (load_row HSZ.out hS.1)),
      RS.StepOK.load 21 (.agg (opC k R base idx sc dp im rip)) (by kernel_rfl) (by kernel_rfl) rfl (fun w hS => run_load rfl (by kernel_rfl) (load_op hS.2.1)),
      RS.StepOK.pure 22 (by kernel_rfl) rfl (fun w => by kernel_rfl),
      RS.StepOK.call 23 9 #[.agg cs, .agg (opC k R base idx sc dp im rip), .int .u64 nx] (.tuple #[.int .u64 0, .int .i64 2]) (by kernel_rfl) (by kernel_rfl) rfl (fun w => by kernel_rfl) (fun w hS => hS.met (address_kind cs k R base idx sc dp im nx rip w HK.out)),
      RS.StepOK.pure 19 (by kernel_rfl) rfl (fun w => by kernel_rfl),
      RS.StepOK.pure 24 (by kernel_rfl) rfl (fun w => by kernel_rfl),
      RS.StepOK.pure 25 (by kernel_rfl) rfl (fun w => by kernel_rfl),
      RS.StepOK.pure 9 (by kernel_rfl) rfl (fun w => by kernel_rfl),
      RS.StepOK.pure 10 (by kernel_rfl) rfl (fun w => by kernel_rfl), trivial⟩
  rintro w2 hs
  clear HS
  have HS := Aside0.mk hs
  clear hs
  (try simp only [RS.sets, List.setIfInBounds_toArray, List.set_cons_zero, List.set_cons_succ])
  go_upto_region 2 with (fail)
  refine RS.wp_text [(26, .pointer (some ⟨g1, 0, none⟩)), (27, .int .u8 k), (28, .bool true), (29, .bool true), (30, undef), (31, undef), (32, undef), (33, .bool true)] (AdS w0 g0 g1 cs (opC k R base idx sc dp im rip)) (by kernel_rfl) (by kernel_rfl) HS.out ?_ ?_
  · exact ⟨RS.StepOK.pure 26 (by kernel_rfl) rfl (fun w => by kernel_rfl),
      RS.StepOK.load 27 (.int .u8 k) (by kernel_rfl) (by kernel_rfl) rfl (fun w hS => run_load rfl (by kernel_rfl) (load_cell (i := 0) Tryd.underlying5 hS.2.1 (by kernel_rfl))),
      RS.StepOK.load 28 (.bool true) (by kernel_rfl) (by kernel_rfl) rfl (fun w hS => run_bin rfl (by kernel_rfl) (by kernel_rfl) (by kernel_rfl) (neq_u8' HK.out w)),
      RS.StepOK.pure 29 (by kernel_rfl) rfl (fun w => by kernel_rfl),
      RS.StepOK.off 30 (by kernel_rfl) rfl (by kernel_rfl),
      RS.StepOK.off 31 (by kernel_rfl) rfl (by kernel_rfl),
      RS.StepOK.off 32 (by kernel_rfl) rfl (by kernel_rfl),
      RS.StepOK.pure 33 (by kernel_rfl) rfl (fun w => by kernel_rfl), trivial⟩
  rintro w3 hs
  clear HS
  have HS := Aside0.mk hs
  clear hs
  (try simp only [RS.sets, List.setIfInBounds_toArray, List.set_cons_zero, List.set_cons_succ])
  go_upto_region 3 with (fail)
  refine RS.wp_text [(34, .int .i64 2), (35, .bool true), (36, .bool true), (37, .int .u64 0), (38, .bool true), (39, .bool true), (40, .bool true), (41, .bool true), (42, .bool true), (8, .bool true)] (AdS w0 g0 g1 cs (opC k R base idx sc dp im rip)) (by kernel_rfl) (by kernel_rfl) HS.out ?_ ?_
  · exact ⟨RS.StepOK.pure 34 (by kernel_rfl) rfl (fun w => by kernel_rfl),
      RS.StepOK.pure 35 (by kernel_rfl) rfl (fun w => by kernel_rfl),
      RS.StepOK.pure 36 (by kernel_rfl) rfl (fun w => by kernel_rfl),
      RS.StepOK.pure 37 (by kernel_rfl) rfl (fun w => by kernel_rfl),
      RS.StepOK.pure 38 (by kernel_rfl) rfl (fun w => by kernel_rfl),
      RS.StepOK.pure 39 (by kernel_rfl) rfl (fun w => by kernel_rfl),
      RS.StepOK.pure 40 (by kernel_rfl) rfl (fun w => by kernel_rfl),
      RS.StepOK.call 41 6 #[] (.bool true) (by kernel_rfl) (by kernel_rfl) rfl (fun w => by kernel_rfl) (fun w hS => hS.met (wakes_calls w hS.2.2.1)),
      RS.StepOK.pure 42 (by kernel_rfl) rfl (fun w => by kernel_rfl),
      RS.StepOK.pure 8 (by kernel_rfl) rfl (fun w => by kernel_rfl), trivial⟩
  rintro w4 hs
  clear HS
  have HS := Aside0.mk hs
  clear hs
  (try simp only [RS.sets, List.setIfInBounds_toArray, List.set_cons_zero, List.set_cons_succ])
  go_wp2_with fail
  go_ret
  exact ⟨rfl, HS.out.2.2.2⟩
set_option maxHeartbeats 8000000 in
set_option maxRecDepth 100000 in
theorem adr_not (cs : Array Value) (R base idx sc dp im nx y : Int) (rip : Bool) (w0 : World) (hsz : cs.size = 278) (hT : Tab w0) (hr : rightF 2 R base idx sc dp rip im = false) :
    Calls Tryd.prog 4 #[.agg cs, .agg (opC 2 R base idx sc dp im rip), .int .u64 nx, .int .u64 y] w0 fun e w' => e = .returned (.bool true) ∧ Below w0.heap.size w0 w' := by
  have HR1 := Aside0.mk (show operand_Right.f 2 2 R base idx sc dp rip im = some false by rw [right_f, hr])
  have HR2 := Aside0.mk (show sundialref08_Right.f 2 2 R base idx sc dp rip im = some false by rw [refRight 0, hr])
  clear hr
  have hu29 := Tryd.underlying29
  have hu36 := Tryd.underlying36
  have HSZ := Aside0.mk hsz
  have hs : AdS w0 w0.heap.size (w0.heap.size + 1) cs (opC 2 R base idx sc dp im rip) ((w0.alloc (.cells cs 29)).alloc (.cells (opC 2 R base idx sc dp im rip) 36)) := by
    have hb : Below w0.heap.size w0 ((w0.alloc (.cells cs 29)).alloc (.cells (opC 2 R base idx sc dp im rip) 36)) := bX_ (bX_ (Below.refl _ _) _) _
    refine ⟨(Below.heap_alloc _ _ _ (by simp)).trans (World.alloc_heap_new w0 _), ?_, hT.below hb, hb⟩
    have h := World.alloc_heap_new (w0.alloc (.cells cs 29)) (.cells (opC 2 R base idx sc dp im rip) 36)
    rwa [World.size_alloc] at h
  have HS := Aside0.mk hs
  clear hs hT hsz
  go_enter Tryd.func4, Tryd.ntmps4
  go_upto_region 1 with (fail)
  generalize (w0.alloc (.cells cs 29)).alloc (.cells (opC 2 R base idx sc dp im rip) 36) = w1 at *
  obtain ⟨g0, hg0⟩ : ∃ g, w0.heap.size = g := ⟨_, rfl⟩
  rw [hg0] at HS
  (try rw [hg0])
  obtain ⟨g1, hg1⟩ : ∃ g, g0 + 1 = g := ⟨_, rfl⟩
  rw [hg1] at HS
  (try rw [hg1])
  have HG0 := Aside0.mk hg0
  have HG1 := Aside0.mk hg1
  clear hg0 hg1
  refine RS.wp_text [(20, .agg cs), (21, .agg (opC 2 R base idx sc dp im rip)), (22, .int .u64 nx), (23, .tuple #[.int .u64 0, .int .i64 2]), (19, .tuple #[.int .u64 0, .int .i64 2]), (24, .int .u64 0), (25, .int .i64 2), (9, .int .u64 0), (10, .int .i64 2)] (AdS w0 g0 g1 cs (opC 2 R base idx sc dp im rip)) (by kernel_rfl) (by kernel_rfl) HS.out ?_ ?_
  · exact ⟨RS.StepOK.load 20 (.agg cs) (by kernel_rfl) (by kernel_rfl) rfl (fun w hS => run_load rfl (by kernel_rfl) (load_row HSZ.out hS.1)),
      RS.StepOK.load 21 (.agg (opC 2 R base idx sc dp im rip)) (by kernel_rfl) (by kernel_rfl) rfl (fun w hS => run_load rfl (by kernel_rfl) (load_op hS.2.1)),
      RS.StepOK.pure 22 (by kernel_rfl) rfl (fun w => by kernel_rfl),
      RS.StepOK.call 23 9 #[.agg cs, .agg (opC 2 R base idx sc dp im rip), .int .u64 nx] (.tuple #[.int .u64 0, .int .i64 2]) (by kernel_rfl) (by kernel_rfl) rfl (fun w => by kernel_rfl) (fun w hS => hS.met (address_not cs R base idx sc dp im nx rip w HR1.out)),
      RS.StepOK.pure 19 (by kernel_rfl) rfl (fun w => by kernel_rfl),
      RS.StepOK.pure 24 (by kernel_rfl) rfl (fun w => by kernel_rfl),
      RS.StepOK.pure 25 (by kernel_rfl) rfl (fun w => by kernel_rfl),
      RS.StepOK.pure 9 (by kernel_rfl) rfl (fun w => by kernel_rfl),
      RS.StepOK.pure 10 (by kernel_rfl) rfl (fun w => by kernel_rfl), trivial⟩
  rintro w2 hs
  clear HS
  have HS := Aside0.mk hs
  clear hs
  (try simp only [RS.sets, List.setIfInBounds_toArray, List.set_cons_zero, List.set_cons_succ])
  go_upto_region 2 with (fail)
  refine RS.wp_text [(26, .pointer (some ⟨g1, 0, none⟩)), (27, .int .u8 2), (28, .bool false), (29, .bool false), (30, .agg (opC 2 R base idx sc dp im rip)), (31, .bool false), (32, .bool true), (33, .bool true)] (AdS w0 g0 g1 cs (opC 2 R base idx sc dp im rip)) (by kernel_rfl) (by kernel_rfl) HS.out ?_ ?_
  · exact ⟨RS.StepOK.pure 26 (by kernel_rfl) rfl (fun w => by kernel_rfl),
      RS.StepOK.load 27 (.int .u8 2) (by kernel_rfl) (by kernel_rfl) rfl (fun w hS => run_load rfl (by kernel_rfl) (load_cell (i := 0) Tryd.underlying5 hS.2.1 (by kernel_rfl))),
      RS.StepOK.pure 28 (by kernel_rfl) rfl (fun w => by kernel_rfl),
      RS.StepOK.pure 29 (by kernel_rfl) rfl (fun w => by kernel_rfl),
      RS.StepOK.load 30 (.agg (opC 2 R base idx sc dp im rip)) (by kernel_rfl) (by kernel_rfl) rfl (fun w hS => run_load rfl (by kernel_rfl) (load_op hS.2.1)),
      RS.StepOK.call 31 10 #[.agg (opC 2 R base idx sc dp im rip)] (.bool false) (by kernel_rfl) (by kernel_rfl) rfl (fun w => by kernel_rfl) (fun w hS => hS.met (sundialref08_Right.calls 2 2 R base idx sc dp rip im false w HR2.out)),
      RS.StepOK.pure 32 (by kernel_rfl) rfl (fun w => by kernel_rfl),
      RS.StepOK.pure 33 (by kernel_rfl) rfl (fun w => by kernel_rfl), trivial⟩
  rintro w3 hs
  clear HS
  have HS := Aside0.mk hs
  clear hs
  (try simp only [RS.sets, List.setIfInBounds_toArray, List.set_cons_zero, List.set_cons_succ])
  go_upto_region 3 with (fail)
  refine RS.wp_text [(34, .int .i64 2), (35, .bool true), (36, .bool true), (37, .int .u64 0), (38, .bool true), (39, .bool true), (40, .bool true), (41, .bool true), (42, .bool true), (8, .bool true)] (AdS w0 g0 g1 cs (opC 2 R base idx sc dp im rip)) (by kernel_rfl) (by kernel_rfl) HS.out ?_ ?_
  · exact ⟨RS.StepOK.pure 34 (by kernel_rfl) rfl (fun w => by kernel_rfl),
      RS.StepOK.pure 35 (by kernel_rfl) rfl (fun w => by kernel_rfl),
      RS.StepOK.pure 36 (by kernel_rfl) rfl (fun w => by kernel_rfl),
      RS.StepOK.pure 37 (by kernel_rfl) rfl (fun w => by kernel_rfl),
      RS.StepOK.pure 38 (by kernel_rfl) rfl (fun w => by kernel_rfl),
      RS.StepOK.pure 39 (by kernel_rfl) rfl (fun w => by kernel_rfl),
      RS.StepOK.pure 40 (by kernel_rfl) rfl (fun w => by kernel_rfl),
      RS.StepOK.call 41 6 #[] (.bool true) (by kernel_rfl) (by kernel_rfl) rfl (fun w => by kernel_rfl) (fun w hS => hS.met (wakes_calls w hS.2.2.1)),
      RS.StepOK.pure 42 (by kernel_rfl) rfl (fun w => by kernel_rfl),
      RS.StepOK.pure 8 (by kernel_rfl) rfl (fun w => by kernel_rfl), trivial⟩
  rintro w4 hs
  clear HS
  have HS := Aside0.mk hs
  clear hs
  (try simp only [RS.sets, List.setIfInBounds_toArray, List.set_cons_zero, List.set_cons_succ])
  go_wp2_with fail
  go_ret
  exact ⟨rfl, HS.out.2.2.2⟩
end Go.Proofs.YtpmclnlgipphmaaDoor.B
namespace Go.Proofs.YtpmclnlgipphmaaDoor.B
open Go.RowKit Go.Proofs.YtpmclnlgipphmaaDoorW.PrintWords Go.Proofs.YtpmclnlgipphmaaDoorW.PrintMore Go.RF
set_option linter.unusedVariables false
set_option linter.unusedSimpArgs false
set_option maxHeartbeats 8000000 in
set_option maxRecDepth 100000 in
theorem adr_rip (cs : Array Value) (R base idx sc dp im nx y xb xi : Int) (w0 : World) (hsz : cs.size = 278) (h1c : cs.all (·.oneCell') = true) (hR : ∀ j, j < 16 → ∃ n : Int, cs[j]? = some (.int .u64 n) ∧ 0 ≤ n ∧ n < 18446744073709551616) (hT : Tab w0) (hr : rightF 2 R base idx sc dp true im = true) (hb16 : base < 16) (hi16 : idx < 16)
    (hxb : 0 ≤ base → cs[base.toNat]? = some (.int .u64 xb)) (hxi : 0 ≤ idx → cs[idx.toNat]? = some (.int .u64 xi)) (hb : base = -1) (hi : idx = -1) (hsc : sc = 1) :
    Calls Tryd.prog 4 #[.agg cs, .agg (opC 2 R base idx sc dp im true), .int .u64 nx, .int .u64 y] w0 fun e w' => e = .returned (.bool true) ∧ Below w0.heap.size w0 w' := by
  have HR1 := Aside0.mk (show operand_Right.f 2 2 R base idx sc dp true im = some true by rw [right_f, hr])
  have HR2 := Aside0.mk (show sundialref08_Right.f 2 2 R base idx sc dp true im = some true by rw [refRight 0, hr])
  obtain ⟨A, hA⟩ : ∃ a, addrF base idx sc dp nx xb xi true = a := ⟨_, rfl⟩
  have hc : ∀ (n : Int) (w : World), Calls Tryd.prog 9 #[.agg cs, .agg (opC 2 R base idx sc dp im true), .int .u64 n] w fun e w' => e = .returned (.tuple #[.int .u64 (addrF base idx sc dp n xb xi true), .int .i64 0]) ∧ Below w.heap.size w w' := fun n w => by
    have h := address_ok cs R base idx sc dp im n xb xi true w hsz HR1.out hb16 hi16 (fun _ => (by omega)) hxb hxi
    rw [sum_addr] at h
    exact h
  have h1 : ∀ w : World, Calls Tryd.prog 9 #[.agg cs, .agg (opC 2 R base idx sc dp im true), .int .u64 nx] w fun e w' => e = .returned (.tuple #[.int .u64 A, .int .i64 0]) ∧ Below w.heap.size w w' := fun w => by rw [← hA]; exact hc nx w
  have h2 : ∀ w : World, Calls Tryd.prog 9 #[.agg cs, .agg (opC 2 R base idx sc dp im true), .int .u64 (IntKind.u64.wrap (nx + y))] w fun e w' => e = .returned (.tuple #[.int .u64 (IntKind.u64.wrap (A + y)), .int .i64 0]) ∧ Below w.heap.size w w' := fun w => by
    have h := hc (IntKind.u64.wrap (nx + y)) w
    rw [addr_next, hA] at h
    exact h
  have h3 : ∀ (j : Nat) (v : Int) (w : World), j < 16 → cs[j]? = some (.int .u64 v) → Calls Tryd.prog 9 #[.agg (cs.setIfInBounds j (.int .u64 (IntKind.u64.wrap (v + y)))), .agg (opC 2 R base idx sc dp im true), .int .u64 nx] w fun e w' => e = .returned (.tuple #[.int .u64 (IntKind.u64.wrap (A + moreF base idx sc (j : Int) y)), .int .i64 0]) ∧ Below w.heap.size w w' := fun j v w hj hv => by
    have get : ∀ (b x : Int), (0 ≤ b → cs[b.toNat]? = some (.int .u64 x)) → b < 16 → 0 ≤ b → (cs.setIfInBounds j (.int .u64 (IntKind.u64.wrap (v + y))))[b.toNat]? = some (.int .u64 (if b = (j : Int) then IntKind.u64.wrap (x + y) else x)) := fun b x hx hb hb0 => by
      by_cases e : b = (j : Int)
      · subst e
        rw [if_pos rfl]
        have := hx hb0
        simp only [Int.toNat_natCast] at this ⊢
        rw [hv] at this
        injection this with this
        injection this with _ this
        rw [Array.getElem?_setIfInBounds, if_pos rfl, if_pos (by omega), this]
      · rw [if_neg e, Array.getElem?_setIfInBounds, if_neg (by omega)]
        exact hx hb0
    have h := address_ok (cs.setIfInBounds j (.int .u64 (IntKind.u64.wrap (v + y)))) R base idx sc dp im nx (if base = (j : Int) then IntKind.u64.wrap (xb + y) else xb) (if idx = (j : Int) then IntKind.u64.wrap (xi + y) else xi) true w (by simpa using hsz) HR1.out hb16 hi16 (fun _ => (by omega)) (get base xb hxb hb16) (get idx xi hxi hi16)
    rw [sum_addr, addr_more _ _ _ _ _ _ _ _ _ _ (by omega), hA] at h
    exact h
  have hU : sundialref08_Uses.f 2 R base idx sc dp true im = some [] := by unfold sundialref08_Uses.f; rw [if_pos rfl, if_neg (by omega), if_neg (by omega)]
  have HU := Aside0.mk hU
  clear hU
  have H1 := Aside0.mk h1
  have H2 := Aside0.mk h2
  have H3 := Aside0.mk h3
  have HRR := Aside0.mk hR
  have H1C := Aside0.mk h1c
  clear h1 h2 h3 hc hr hxb hxi hR h1c hA hb16 hi16
  clear hb hi hsc
  have hu29 := Tryd.underlying29
  have hu36 := Tryd.underlying36
  have HSZ := Aside0.mk hsz
  have hs : AdS w0 w0.heap.size (w0.heap.size + 1) cs (opC 2 R base idx sc dp im true) ((w0.alloc (.cells cs 29)).alloc (.cells (opC 2 R base idx sc dp im true) 36)) := by
    have hb : Below w0.heap.size w0 ((w0.alloc (.cells cs 29)).alloc (.cells (opC 2 R base idx sc dp im true) 36)) := bX_ (bX_ (Below.refl _ _) _) _
    refine ⟨(Below.heap_alloc _ _ _ (by simp)).trans (World.alloc_heap_new w0 _), ?_, hT.below hb, hb⟩
    have h := World.alloc_heap_new (w0.alloc (.cells cs 29)) (.cells (opC 2 R base idx sc dp im true) 36)
    rwa [World.size_alloc] at h
  have HS := Aside0.mk hs
  clear hs hT hsz
  go_enter Tryd.func4, Tryd.ntmps4
  go_upto_region 1 with (fail)
  generalize (w0.alloc (.cells cs 29)).alloc (.cells (opC 2 R base idx sc dp im true) 36) = w1 at *
  obtain ⟨g0, hg0⟩ : ∃ g, w0.heap.size = g := ⟨_, rfl⟩
  rw [hg0] at HS
  (try rw [hg0])
  obtain ⟨g1, hg1⟩ : ∃ g, g0 + 1 = g := ⟨_, rfl⟩
  rw [hg1] at HS
  (try rw [hg1])
  have HG0 := Aside0.mk hg0
  have HG1 := Aside0.mk hg1
  clear hg0 hg1
  refine RS.wp_text [(20, .agg cs), (21, .agg (opC 2 R base idx sc dp im true)), (22, .int .u64 nx), (23, .tuple #[.int .u64 A, .int .i64 0]), (19, .tuple #[.int .u64 A, .int .i64 0]), (24, .int .u64 A), (25, .int .i64 0), (9, .int .u64 A), (10, .int .i64 0)] (AdS w0 g0 g1 cs (opC 2 R base idx sc dp im true)) (by kernel_rfl) (by kernel_rfl) HS.out ?_ ?_
  · exact ⟨RS.StepOK.load 20 (.agg cs) (by kernel_rfl) (by kernel_rfl) rfl (fun w hS => run_load rfl (by kernel_rfl) (load_row HSZ.out hS.1)),
      RS.StepOK.load 21 (.agg (opC 2 R base idx sc dp im true)) (by kernel_rfl) (by kernel_rfl) rfl (fun w hS => run_load rfl (by kernel_rfl) (load_op hS.2.1)),
      RS.StepOK.pure 22 (by kernel_rfl) rfl (fun w => by kernel_rfl),
      RS.StepOK.call 23 9 #[.agg cs, .agg (opC 2 R base idx sc dp im true), .int .u64 nx] (.tuple #[.int .u64 A, .int .i64 0]) (by kernel_rfl) (by kernel_rfl) rfl (fun w => by kernel_rfl) (fun w hS => hS.met (H1.out w)),
      RS.StepOK.pure 19 (by kernel_rfl) rfl (fun w => by kernel_rfl),
      RS.StepOK.pure 24 (by kernel_rfl) rfl (fun w => by kernel_rfl),
      RS.StepOK.pure 25 (by kernel_rfl) rfl (fun w => by kernel_rfl),
      RS.StepOK.pure 9 (by kernel_rfl) rfl (fun w => by kernel_rfl),
      RS.StepOK.pure 10 (by kernel_rfl) rfl (fun w => by kernel_rfl), trivial⟩
  rintro w2 hs
  clear HS
  have HS := Aside0.mk hs
  clear hs
  (try simp only [RS.sets, List.setIfInBounds_toArray, List.set_cons_zero, List.set_cons_succ])
  go_upto_region 2 with (fail)
  refine RS.wp_text [(26, .pointer (some ⟨g1, 0, none⟩)), (27, .int .u8 2), (28, .bool false), (29, .bool false), (30, .agg (opC 2 R base idx sc dp im true)), (31, .bool true), (32, .bool false), (33, .bool false)] (AdS w0 g0 g1 cs (opC 2 R base idx sc dp im true)) (by kernel_rfl) (by kernel_rfl) HS.out ?_ ?_
  · exact ⟨RS.StepOK.pure 26 (by kernel_rfl) rfl (fun w => by kernel_rfl),
      RS.StepOK.load 27 (.int .u8 2) (by kernel_rfl) (by kernel_rfl) rfl (fun w hS => run_load rfl (by kernel_rfl) (load_cell (i := 0) Tryd.underlying5 hS.2.1 (by kernel_rfl))),
      RS.StepOK.pure 28 (by kernel_rfl) rfl (fun w => by kernel_rfl),
      RS.StepOK.pure 29 (by kernel_rfl) rfl (fun w => by kernel_rfl),
      RS.StepOK.load 30 (.agg (opC 2 R base idx sc dp im true)) (by kernel_rfl) (by kernel_rfl) rfl (fun w hS => run_load rfl (by kernel_rfl) (load_op hS.2.1)),
      RS.StepOK.call 31 10 #[.agg (opC 2 R base idx sc dp im true)] (.bool true) (by kernel_rfl) (by kernel_rfl) rfl (fun w => by kernel_rfl) (fun w hS => hS.met (sundialref08_Right.calls 2 2 R base idx sc dp true im true w HR2.out)),
      RS.StepOK.pure 32 (by kernel_rfl) rfl (fun w => by kernel_rfl),
      RS.StepOK.pure 33 (by kernel_rfl) rfl (fun w => by kernel_rfl), trivial⟩
  rintro w3 hs
  clear HS
  have HS := Aside0.mk hs
  clear hs
  (try simp only [RS.sets, List.setIfInBounds_toArray, List.set_cons_zero, List.set_cons_succ])
  have q0 : w3.cell? ⟨g1, 0, none⟩ = some (.int .u8 2) := by rw [bC_ HS.out.2.1]; rfl
  have q1 : w3.cell? ⟨g1, 1, none⟩ = some (.int .i64 R) := by rw [bC_ HS.out.2.1]; rfl
  have q2 : w3.cell? ⟨g1, 2, none⟩ = some (.int .i64 base) := by rw [bC_ HS.out.2.1]; rfl
  have q3 : w3.cell? ⟨g1, 3, none⟩ = some (.int .i64 idx) := by rw [bC_ HS.out.2.1]; rfl
  have q4 : w3.cell? ⟨g1, 4, none⟩ = some (.int .i64 sc) := by rw [bC_ HS.out.2.1]; rfl
  have q5 : w3.cell? ⟨g1, 5, none⟩ = some (.int .i64 dp) := by rw [bC_ HS.out.2.1]; rfl
  have q6 : w3.cell? ⟨g1, 6, none⟩ = some (.bool true) := by rw [bC_ HS.out.2.1]; rfl
  have q7 : w3.cell? ⟨g1, 7, none⟩ = some (.int .i64 im) := by rw [bC_ HS.out.2.1]; rfl
  go_upto_region 5 with (first | (go_at_call 11; refine (sundialref08_Uses.calls 2 R base idx sc dp true im [] _ HU.out).mono ?_; rintro e w4 ⟨v0, rfl, ho, hb⟩; obtain ⟨A0, c0, e0⟩ := Kd.R_slice ho; (try rw [List.length_nil] at e0); subst e0; have n0 := Aside0.mk (HS.out.below hb); clear HS hb ho; have HS := n0; clear n0))
  clear q0 q1 q2 q3 q4 q5 q6 q7
  refine RS.wp_text [(45, .int .i64 0), (46, .bool false), (47, .bool false), (48, .slice A0 0 c0), (49, .int .i64 0), (50, .bool true), (51, .bool true), (52, .pointer (some ⟨g1, 6, none⟩)), (53, .bool true), (54, .bool false), (55, .bool false), (56, .bool false), (57, undef), (58, undef), (59, undef), (60, undef), (61, undef), (62, .bool false), (63, .bool false)] (AdS w0 g0 g1 cs (opC 2 R base idx sc dp im true)) (by kernel_rfl) (by kernel_rfl) HS.out ?_ ?_
  · exact ⟨RS.StepOK.pure 45 (by kernel_rfl) rfl (fun w => by kernel_rfl),
      RS.StepOK.pure 46 (by kernel_rfl) rfl (fun w => by kernel_rfl),
      RS.StepOK.pure 47 (by kernel_rfl) rfl (fun w => by kernel_rfl),
      RS.StepOK.pure 48 (by kernel_rfl) rfl (fun w => by kernel_rfl),
      RS.StepOK.pure 49 (by kernel_rfl) rfl (fun w => by kernel_rfl),
      RS.StepOK.pure 50 (by kernel_rfl) rfl (fun w => by kernel_rfl),
      RS.StepOK.pure 51 (by kernel_rfl) rfl (fun w => by kernel_rfl),
      RS.StepOK.pure 52 (by kernel_rfl) rfl (fun w => by kernel_rfl),
      RS.StepOK.load 53 (.bool true) (by kernel_rfl) (by kernel_rfl) rfl (fun w hS => run_load rfl (by kernel_rfl) (load_flag (i := 6) hS.2.1 (by kernel_rfl))),
      RS.StepOK.pure 54 (by kernel_rfl) rfl (fun w => by kernel_rfl),
      RS.StepOK.pure 55 (by kernel_rfl) rfl (fun w => by kernel_rfl),
      RS.StepOK.pure 56 (by kernel_rfl) rfl (fun w => by kernel_rfl),
      RS.StepOK.off 57 (by kernel_rfl) rfl (by kernel_rfl),
      RS.StepOK.off 58 (by kernel_rfl) rfl (by kernel_rfl),
      RS.StepOK.off 59 (by kernel_rfl) rfl (by kernel_rfl),
      RS.StepOK.off 60 (by kernel_rfl) rfl (by kernel_rfl),
      RS.StepOK.off 61 (by kernel_rfl) rfl (by kernel_rfl),
      RS.StepOK.pure 62 (by kernel_rfl) rfl (fun w => by kernel_rfl),
      RS.StepOK.pure 63 (by kernel_rfl) rfl (fun w => by kernel_rfl), trivial⟩
  rintro w5 hs
  clear HS
  have HS := Aside0.mk hs
  clear hs
  (try simp only [RS.sets, List.setIfInBounds_toArray, List.set_cons_zero, List.set_cons_succ])
  go_upto_region 7 with (fail)
  refine RS.wp_text [(65, .agg cs), (66, .agg (opC 2 R base idx sc dp im true)), (67, .int .u64 nx), (68, .int .u64 y), (69, .int .u64 (IntKind.u64.wrap (nx + y))), (70, .tuple #[.int .u64 (IntKind.u64.wrap (A + y)), .int .i64 0]), (64, .tuple #[.int .u64 (IntKind.u64.wrap (A + y)), .int .i64 0]), (71, .int .u64 (IntKind.u64.wrap (A + y))), (72, .int .i64 0), (12, .int .u64 (IntKind.u64.wrap (A + y))), (13, .int .i64 0)] (AdS w0 g0 g1 cs (opC 2 R base idx sc dp im true)) (by kernel_rfl) (by kernel_rfl) HS.out ?_ ?_
  · exact ⟨RS.StepOK.load 65 (.agg cs) (by kernel_rfl) (by kernel_rfl) rfl (fun w hS => run_load rfl (by kernel_rfl) (load_row HSZ.out hS.1)),
      RS.StepOK.load 66 (.agg (opC 2 R base idx sc dp im true)) (by kernel_rfl) (by kernel_rfl) rfl (fun w hS => run_load rfl (by kernel_rfl) (load_op hS.2.1)),
      RS.StepOK.pure 67 (by kernel_rfl) rfl (fun w => by kernel_rfl),
      RS.StepOK.pure 68 (by kernel_rfl) rfl (fun w => by kernel_rfl),
      RS.StepOK.pure 69 (by kernel_rfl) rfl (fun w => by kernel_rfl),
      RS.StepOK.call 70 9 #[.agg cs, .agg (opC 2 R base idx sc dp im true), .int .u64 (IntKind.u64.wrap (nx + y))] (.tuple #[.int .u64 (IntKind.u64.wrap (A + y)), .int .i64 0]) (by kernel_rfl) (by kernel_rfl) rfl (fun w => by kernel_rfl) (fun w hS => hS.met (H2.out w)),
      RS.StepOK.pure 64 (by kernel_rfl) rfl (fun w => by kernel_rfl),
      RS.StepOK.pure 71 (by kernel_rfl) rfl (fun w => by kernel_rfl),
      RS.StepOK.pure 72 (by kernel_rfl) rfl (fun w => by kernel_rfl),
      RS.StepOK.pure 12 (by kernel_rfl) rfl (fun w => by kernel_rfl),
      RS.StepOK.pure 13 (by kernel_rfl) rfl (fun w => by kernel_rfl), trivial⟩
  rintro w6 hs
  clear HS
  have HS := Aside0.mk hs
  clear hs
  (try simp only [RS.sets, List.setIfInBounds_toArray, List.set_cons_zero, List.set_cons_succ])
  go_upto_region 8 with (fail)
  refine RS.wp_text [(73, .int .i64 0), (74, .bool false), (75, .bool false), (76, .pointer (some ⟨g1, 6, none⟩)), (77, .bool true), (78, .bool true), (79, .int .u64 (IntKind.u64.wrap (A + y))), (80, .int .u64 A), (81, .int .u64 y), (82, .int .u64 (IntKind.u64.wrap (A + y))), (83, .bool false), (84, .bool false), (85, .bool false), (86, .bool false), (87, .pointer (some ⟨g1, 6, none⟩)), (88, .bool true), (89, .bool false), (90, .bool false), (91, undef), (92, undef), (93, undef), (94, .bool false), (95, .bool false)] (AdS w0 g0 g1 cs (opC 2 R base idx sc dp im true)) (by kernel_rfl) (by kernel_rfl) HS.out ?_ ?_
  · exact ⟨RS.StepOK.pure 73 (by kernel_rfl) rfl (fun w => by kernel_rfl),
      RS.StepOK.pure 74 (by kernel_rfl) rfl (fun w => by kernel_rfl),
      RS.StepOK.pure 75 (by kernel_rfl) rfl (fun w => by kernel_rfl),
      RS.StepOK.pure 76 (by kernel_rfl) rfl (fun w => by kernel_rfl),
      RS.StepOK.load 77 (.bool true) (by kernel_rfl) (by kernel_rfl) rfl (fun w hS => run_load rfl (by kernel_rfl) (load_flag (i := 6) hS.2.1 (by kernel_rfl))),
      RS.StepOK.pure 78 (by kernel_rfl) rfl (fun w => by kernel_rfl),
      RS.StepOK.pure 79 (by kernel_rfl) rfl (fun w => by kernel_rfl),
      RS.StepOK.pure 80 (by kernel_rfl) rfl (fun w => by kernel_rfl),
      RS.StepOK.pure 81 (by kernel_rfl) rfl (fun w => by kernel_rfl),
      RS.StepOK.pure 82 (by kernel_rfl) rfl (fun w => by kernel_rfl),
      RS.StepOK.load 83 (.bool false) (by kernel_rfl) (by kernel_rfl) rfl (fun w hS => run_bin rfl (by kernel_rfl) (by kernel_rfl) (by kernel_rfl) (neq_word (x := IntKind.u64.wrap (A + y)) rfl w)),
      RS.StepOK.pure 84 (by kernel_rfl) rfl (fun w => by kernel_rfl),
      RS.StepOK.pure 85 (by kernel_rfl) rfl (fun w => by kernel_rfl),
      RS.StepOK.pure 86 (by kernel_rfl) rfl (fun w => by kernel_rfl),
      RS.StepOK.pure 87 (by kernel_rfl) rfl (fun w => by kernel_rfl),
      RS.StepOK.load 88 (.bool true) (by kernel_rfl) (by kernel_rfl) rfl (fun w hS => run_load rfl (by kernel_rfl) (load_flag (i := 6) hS.2.1 (by kernel_rfl))),
      RS.StepOK.pure 89 (by kernel_rfl) rfl (fun w => by kernel_rfl),
      RS.StepOK.pure 90 (by kernel_rfl) rfl (fun w => by kernel_rfl),
      RS.StepOK.off 91 (by kernel_rfl) rfl (by kernel_rfl),
      RS.StepOK.off 92 (by kernel_rfl) rfl (by kernel_rfl),
      RS.StepOK.off 93 (by kernel_rfl) rfl (by kernel_rfl),
      RS.StepOK.pure 94 (by kernel_rfl) rfl (fun w => by kernel_rfl),
      RS.StepOK.pure 95 (by kernel_rfl) rfl (fun w => by kernel_rfl), trivial⟩
  rintro w7 hs
  clear HS
  have HS := Aside0.mk hs
  clear hs
  (try simp only [RS.sets, List.setIfInBounds_toArray, List.set_cons_zero, List.set_cons_succ])
  go_wp2_with fail
  go_loopw [14, 15, 16, 17, 18] (fun u _ _ _ _ wr => ∃ j : Nat, j ≤ 16 ∧ u = .int .i64 (j : Int) ∧ AdS w0 g0 g1 cs (opC 2 R base idx sc dp im true) wr) (fun u _ _ _ _ _ => 16 - (RowKit.intOf u).toNat)
  case atStart => exact ⟨0, by omega, rfl, HS.out⟩
  case round =>
    obtain ⟨j, hj, rfl, hs⟩ := hrel
    clear HS
    have HS := Aside0.mk hs
    clear hs
    by_cases hj16 : j < 16
    · obtain ⟨v, hv, hv0, hv1⟩ := HRR.out j hj16
      have HV := Aside0.mk hv
      clear hv
      have hin : (Tryd.prog.info? 29).map (·.size) = some cs.size := by rw [HSZ.out]; exact size29
      have HIN := Aside0.mk hin
      clear hin
      have G0 := Aside0.mk HS.out.1
      go_upto_region 14 with (first | (with_reducible refine wpList_load_row rfl 29 (.tmp 4) rfl g0 rfl 29 cs (0, 0) _ G0.out hu29 rfl HIN.out ?_) | ((with_reducible refine gate_dst (N := 15) rfl ?_); refine box_event rfl (N := 15) rfl (cs := Z29) (t := 29) (by show Sem.run Tryd.prog _ _ = _; simp only [execOp, Sem.run_bind, run_alloc29, Result.andThen_ok, Sem.run_pure]) ?_; intro g2 hg w8 hbox hb; have HL := Aside0.mk (show w0.heap.size ≤ g2 ∧ g0 < g2 ∧ g1 < g2 by have := HS.out.2.2.2.size; have := blk_lt HS.out.1; have := blk_lt HS.out.2.1; omega); have n0 := Aside0.mk (HS.out.below hb); have B2 := Aside0.mk hbox; clear HS hb hbox hg; have HS := n0; clear n0) | (with_reducible refine wpList_store_row rfl 29 (.tmp 15) (.tmp 100) rfl g2 cs rfl rfl 29 Z29 B2.out HIN.out (by rw [HSZ.out]; kernel_rfl) H1C.out ?_))
      clear G0
      have hkp := keeps_setRow w8 g2 cs
      have hs : AdT w0 g0 g1 g2 cs (opC 2 R base idx sc dp im true) cs (w8.setRow g2 cs) := by
        have hB := HS.out.2.2.2.trans (hkp.below HS.out.2.2.2.size (fun k hk h => by have := HL.out; omega))
        exact ⟨⟨hkp.at_ HS.out.1 (by have := HL.out; omega), hkp.at_ HS.out.2.1 (by have := HL.out; omega), HS.out.2.2.1.keeps hkp (fun h => by have := HL.out; omega), hB⟩, setRow_heap w8 g2 Z29 cs 29 (0, 0) B2.out⟩
      clear HS
      have HS := Aside0.mk hs
      clear hs hkp B2
      generalize w8.setRow g2 cs = w9 at *
      have q0 : w9.cell? ⟨g2, j, none⟩ = some (.int .u64 v) := by rw [bC_ HS.out.2]; exact HV.out
      have z0 : w9.frozen? ⟨g2, j, none⟩ = false := bF_ HS.out.2 j
      have j0 : (0 : Int) ≤ (j : Int) := by omega
      have j1 : (j : Int) < 16 := by omega
      go_upto_region 15 with (fail)
      have hkp : Keeps (fun k => k = g2) w9 (w9.setCell ⟨g2, j, none⟩ (.int .u64 (IntKind.u64.wrap (v + y)))) := (Keeps.refl _ _).setCell _ _ rfl
      have hs : AdT w0 g0 g1 g2 cs (opC 2 R base idx sc dp im true) (cs.setIfInBounds j (.int .u64 (IntKind.u64.wrap (v + y)))) (w9.setCell ⟨g2, j, none⟩ (.int .u64 (IntKind.u64.wrap (v + y)))) := by
        obtain ⟨⟨s1, s2, s3, s4⟩, s5⟩ := HS.out
        exact ⟨⟨hkp.at_ s1 (by have := HL.out; omega), hkp.at_ s2 (by have := HL.out; omega), s3.keeps hkp (fun h => by have := HL.out; omega), s4.trans (hkp.below s4.size (fun k hk h => by have := HL.out; omega))⟩, blk_set1 s5 _ _⟩
      clear HS
      have HS := Aside0.mk hs
      clear hs hkp q0 z0
      generalize w9.setCell ⟨g2, j, none⟩ (.int .u64 (IntKind.u64.wrap (v + y))) = w10 at *
      refine RS.wp_text [(111, .agg (cs.setIfInBounds j (.int .u64 (IntKind.u64.wrap (v + y))))), (112, .agg (opC 2 R base idx sc dp im true)), (113, .int .u64 nx), (114, .tuple #[.int .u64 (IntKind.u64.wrap (A + moreF base idx sc (j : Int) y)), .int .i64 0]), (110, .tuple #[.int .u64 (IntKind.u64.wrap (A + moreF base idx sc (j : Int) y)), .int .i64 0]), (115, .int .u64 (IntKind.u64.wrap (A + moreF base idx sc (j : Int) y))), (116, .int .i64 0), (16, .int .u64 (IntKind.u64.wrap (A + moreF base idx sc (j : Int) y))), (17, .int .i64 0)] (AdT w0 g0 g1 g2 cs (opC 2 R base idx sc dp im true) (cs.setIfInBounds j (.int .u64 (IntKind.u64.wrap (v + y))))) (by kernel_rfl) (by kernel_rfl) HS.out ?_ ?_
      · exact ⟨RS.StepOK.load 111 (.agg (cs.setIfInBounds j (.int .u64 (IntKind.u64.wrap (v + y))))) (by kernel_rfl) (by kernel_rfl) rfl (fun w hS => run_load rfl (by kernel_rfl) (load_row (by simpa using HSZ.out) hS.2)),
          RS.StepOK.load 112 (.agg (opC 2 R base idx sc dp im true)) (by kernel_rfl) (by kernel_rfl) rfl (fun w hS => run_load rfl (by kernel_rfl) (load_op hS.1.2.1)),
          RS.StepOK.pure 113 (by kernel_rfl) rfl (fun w => by kernel_rfl),
          RS.StepOK.call 114 9 #[.agg (cs.setIfInBounds j (.int .u64 (IntKind.u64.wrap (v + y)))), .agg (opC 2 R base idx sc dp im true), .int .u64 nx] (.tuple #[.int .u64 (IntKind.u64.wrap (A + moreF base idx sc (j : Int) y)), .int .i64 0]) (by kernel_rfl) (by kernel_rfl) rfl (fun w => by kernel_rfl) (fun w hS => hS.met (H3.out j v w hj16 HV.out)),
          RS.StepOK.pure 110 (by kernel_rfl) rfl (fun w => by kernel_rfl),
          RS.StepOK.pure 115 (by kernel_rfl) rfl (fun w => by kernel_rfl),
          RS.StepOK.pure 116 (by kernel_rfl) rfl (fun w => by kernel_rfl),
          RS.StepOK.pure 16 (by kernel_rfl) rfl (fun w => by kernel_rfl),
          RS.StepOK.pure 17 (by kernel_rfl) rfl (fun w => by kernel_rfl), trivial⟩
      rintro w11 hs
      clear HS
      have HS := Aside0.mk hs
      clear hs
      (try simp only [RS.sets, List.setIfInBounds_toArray, List.set_cons_zero, List.set_cons_succ])
      by_cases hbj : base = (j : Int)
      · by_cases hij : idx = (j : Int)
        · go_upto_region 17 with (fail)
          refine RS.wp_text [(117, .pointer (some ⟨g1, 2, none⟩)), (118, .int .i64 base), (119, .int .i64 (j : Int)), (120, .bool true)] (AdT w0 g0 g1 g2 cs (opC 2 R base idx sc dp im true) (cs.setIfInBounds j (.int .u64 (IntKind.u64.wrap (v + y))))) (by kernel_rfl) (by kernel_rfl) HS.out ?_ ?_
          · exact ⟨RS.StepOK.pure 117 (by kernel_rfl) rfl (fun w => by kernel_rfl),
              RS.StepOK.load 118 (.int .i64 base) (by kernel_rfl) (by kernel_rfl) rfl (fun w hS => run_load rfl (by kernel_rfl) (load_cell (i := 2) (by kernel_rfl) hS.1.2.1 (by kernel_rfl))),
              RS.StepOK.pure 119 (by kernel_rfl) rfl (fun w => by kernel_rfl),
              RS.StepOK.load 120 (.bool true) (by kernel_rfl) (by kernel_rfl) rfl (fun w hS => run_bin rfl (by kernel_rfl) (by kernel_rfl) (by kernel_rfl) (eql_i64 hbj w)), trivial⟩
          rintro w12 hs
          clear HS
          have HS := Aside0.mk hs
          clear hs
          (try simp only [RS.sets, List.setIfInBounds_toArray, List.set_cons_zero, List.set_cons_succ])
          go_upto_region 19 with (fail)
          refine RS.wp_text [(124, .pointer (some ⟨g1, 3, none⟩)), (125, .int .i64 idx), (126, .int .i64 (j : Int)), (127, .bool true)] (AdT w0 g0 g1 g2 cs (opC 2 R base idx sc dp im true) (cs.setIfInBounds j (.int .u64 (IntKind.u64.wrap (v + y))))) (by kernel_rfl) (by kernel_rfl) HS.out ?_ ?_
          · exact ⟨RS.StepOK.pure 124 (by kernel_rfl) rfl (fun w => by kernel_rfl),
              RS.StepOK.load 125 (.int .i64 idx) (by kernel_rfl) (by kernel_rfl) rfl (fun w hS => run_load rfl (by kernel_rfl) (load_cell (i := 3) (by kernel_rfl) hS.1.2.1 (by kernel_rfl))),
              RS.StepOK.pure 126 (by kernel_rfl) rfl (fun w => by kernel_rfl),
              RS.StepOK.load 127 (.bool true) (by kernel_rfl) (by kernel_rfl) rfl (fun w hS => run_bin rfl (by kernel_rfl) (by kernel_rfl) (by kernel_rfl) (eql_i64 hij w)), trivial⟩
          rintro w14 hs
          clear HS
          have HS := Aside0.mk hs
          clear hs
          (try simp only [RS.sets, List.setIfInBounds_toArray, List.set_cons_zero, List.set_cons_succ])
          have q4 : w14.cell? ⟨g1, 4, none⟩ = some (.int .i64 sc) := by rw [bC_ HS.out.1.2.1]; rfl
          go_upto_region 21 with (fail)
          clear q4
          refine RS.wp_text [(135, .int .i64 0), (136, .bool false), (137, .bool false), (138, .int .u64 (IntKind.u64.wrap (A + moreF base idx sc (j : Int) y))), (139, .int .u64 A), (140, .int .u64 (IntKind.u64.wrap ((IntKind.u64.wrap y) + IntKind.u64.wrap (y * IntKind.u64.wrap sc)))), (141, .int .u64 (IntKind.u64.wrap (A + (IntKind.u64.wrap ((IntKind.u64.wrap y) + IntKind.u64.wrap (y * IntKind.u64.wrap sc)))))), (142, .bool false), (143, .bool false)] (AdT w0 g0 g1 g2 cs (opC 2 R base idx sc dp im true) (cs.setIfInBounds j (.int .u64 (IntKind.u64.wrap (v + y))))) (by kernel_rfl) (by kernel_rfl) HS.out ?_ ?_
          · exact ⟨RS.StepOK.pure 135 (by kernel_rfl) rfl (fun w => by kernel_rfl),
              RS.StepOK.pure 136 (by kernel_rfl) rfl (fun w => by kernel_rfl),
              RS.StepOK.pure 137 (by kernel_rfl) rfl (fun w => by kernel_rfl),
              RS.StepOK.pure 138 (by kernel_rfl) rfl (fun w => by kernel_rfl),
              RS.StepOK.pure 139 (by kernel_rfl) rfl (fun w => by kernel_rfl),
              RS.StepOK.pure 140 (by kernel_rfl) rfl (fun w => by kernel_rfl),
              RS.StepOK.pure 141 (by kernel_rfl) rfl (fun w => by kernel_rfl),
              RS.StepOK.load 142 (.bool false) (by kernel_rfl) (by kernel_rfl) rfl (fun w hS => run_bin rfl (by kernel_rfl) (by kernel_rfl) (by kernel_rfl) (neq_word (x := (IntKind.u64.wrap (A + moreF base idx sc (j : Int) y))) (y := IntKind.u64.wrap (A + (IntKind.u64.wrap ((IntKind.u64.wrap y) + IntKind.u64.wrap (y * IntKind.u64.wrap sc))))) (by unfold moreF; rw [if_pos hij, if_pos hbj] <;> simp only [IntKind.wrap_u64] <;> omega) w)),
              RS.StepOK.pure 143 (by kernel_rfl) rfl (fun w => by kernel_rfl), trivial⟩
          rintro w16 hs
          clear HS
          have HS := Aside0.mk hs
          clear hs
          (try simp only [RS.sets, List.setIfInBounds_toArray, List.set_cons_zero, List.set_cons_succ])
          go_wp2_with fail
          go_roundw
          case rel => exact ⟨j + 1, by omega, by go_num, HS.out.1⟩
          case measure => simp [RowKit.intOf]; omega
        · go_upto_region 17 with (fail)
          refine RS.wp_text [(117, .pointer (some ⟨g1, 2, none⟩)), (118, .int .i64 base), (119, .int .i64 (j : Int)), (120, .bool true)] (AdT w0 g0 g1 g2 cs (opC 2 R base idx sc dp im true) (cs.setIfInBounds j (.int .u64 (IntKind.u64.wrap (v + y))))) (by kernel_rfl) (by kernel_rfl) HS.out ?_ ?_
          · exact ⟨RS.StepOK.pure 117 (by kernel_rfl) rfl (fun w => by kernel_rfl),
              RS.StepOK.load 118 (.int .i64 base) (by kernel_rfl) (by kernel_rfl) rfl (fun w hS => run_load rfl (by kernel_rfl) (load_cell (i := 2) (by kernel_rfl) hS.1.2.1 (by kernel_rfl))),
              RS.StepOK.pure 119 (by kernel_rfl) rfl (fun w => by kernel_rfl),
              RS.StepOK.load 120 (.bool true) (by kernel_rfl) (by kernel_rfl) rfl (fun w hS => run_bin rfl (by kernel_rfl) (by kernel_rfl) (by kernel_rfl) (eql_i64 hbj w)), trivial⟩
          rintro w12 hs
          clear HS
          have HS := Aside0.mk hs
          clear hs
          (try simp only [RS.sets, List.setIfInBounds_toArray, List.set_cons_zero, List.set_cons_succ])
          go_upto_region 19 with (fail)
          refine RS.wp_text [(124, .pointer (some ⟨g1, 3, none⟩)), (125, .int .i64 idx), (126, .int .i64 (j : Int)), (127, .bool false)] (AdT w0 g0 g1 g2 cs (opC 2 R base idx sc dp im true) (cs.setIfInBounds j (.int .u64 (IntKind.u64.wrap (v + y))))) (by kernel_rfl) (by kernel_rfl) HS.out ?_ ?_
          · exact ⟨RS.StepOK.pure 124 (by kernel_rfl) rfl (fun w => by kernel_rfl),
              RS.StepOK.load 125 (.int .i64 idx) (by kernel_rfl) (by kernel_rfl) rfl (fun w hS => run_load rfl (by kernel_rfl) (load_cell (i := 3) (by kernel_rfl) hS.1.2.1 (by kernel_rfl))),
              RS.StepOK.pure 126 (by kernel_rfl) rfl (fun w => by kernel_rfl),
              RS.StepOK.load 127 (.bool false) (by kernel_rfl) (by kernel_rfl) rfl (fun w hS => run_bin rfl (by kernel_rfl) (by kernel_rfl) (by kernel_rfl) (eql_i64' hij w)), trivial⟩
          rintro w14 hs
          clear HS
          have HS := Aside0.mk hs
          clear hs
          (try simp only [RS.sets, List.setIfInBounds_toArray, List.set_cons_zero, List.set_cons_succ])
          go_upto_region 21 with (fail)
          refine RS.wp_text [(135, .int .i64 0), (136, .bool false), (137, .bool false), (138, .int .u64 (IntKind.u64.wrap (A + moreF base idx sc (j : Int) y))), (139, .int .u64 A), (140, .int .u64 (IntKind.u64.wrap y)), (141, .int .u64 (IntKind.u64.wrap (A + (IntKind.u64.wrap y)))), (142, .bool false), (143, .bool false)] (AdT w0 g0 g1 g2 cs (opC 2 R base idx sc dp im true) (cs.setIfInBounds j (.int .u64 (IntKind.u64.wrap (v + y))))) (by kernel_rfl) (by kernel_rfl) HS.out ?_ ?_
          · exact ⟨RS.StepOK.pure 135 (by kernel_rfl) rfl (fun w => by kernel_rfl),
              RS.StepOK.pure 136 (by kernel_rfl) rfl (fun w => by kernel_rfl),
              RS.StepOK.pure 137 (by kernel_rfl) rfl (fun w => by kernel_rfl),
              RS.StepOK.pure 138 (by kernel_rfl) rfl (fun w => by kernel_rfl),
              RS.StepOK.pure 139 (by kernel_rfl) rfl (fun w => by kernel_rfl),
              RS.StepOK.pure 140 (by kernel_rfl) rfl (fun w => by kernel_rfl),
              RS.StepOK.pure 141 (by kernel_rfl) rfl (fun w => by kernel_rfl),
              RS.StepOK.load 142 (.bool false) (by kernel_rfl) (by kernel_rfl) rfl (fun w hS => run_bin rfl (by kernel_rfl) (by kernel_rfl) (by kernel_rfl) (neq_word (x := (IntKind.u64.wrap (A + moreF base idx sc (j : Int) y))) (y := IntKind.u64.wrap (A + (IntKind.u64.wrap y))) (by unfold moreF; rw [if_neg hij, if_pos hbj] <;> simp only [IntKind.wrap_u64] <;> omega) w)),
              RS.StepOK.pure 143 (by kernel_rfl) rfl (fun w => by kernel_rfl), trivial⟩
          rintro w16 hs
          clear HS
          have HS := Aside0.mk hs
          clear hs
          (try simp only [RS.sets, List.setIfInBounds_toArray, List.set_cons_zero, List.set_cons_succ])
          go_wp2_with fail
          go_roundw
          case rel => exact ⟨j + 1, by omega, by go_num, HS.out.1⟩
          case measure => simp [RowKit.intOf]; omega
      · by_cases hij : idx = (j : Int)
        · go_upto_region 17 with (fail)
          refine RS.wp_text [(117, .pointer (some ⟨g1, 2, none⟩)), (118, .int .i64 base), (119, .int .i64 (j : Int)), (120, .bool false)] (AdT w0 g0 g1 g2 cs (opC 2 R base idx sc dp im true) (cs.setIfInBounds j (.int .u64 (IntKind.u64.wrap (v + y))))) (by kernel_rfl) (by kernel_rfl) HS.out ?_ ?_
          · exact ⟨RS.StepOK.pure 117 (by kernel_rfl) rfl (fun w => by kernel_rfl),
              RS.StepOK.load 118 (.int .i64 base) (by kernel_rfl) (by kernel_rfl) rfl (fun w hS => run_load rfl (by kernel_rfl) (load_cell (i := 2) (by kernel_rfl) hS.1.2.1 (by kernel_rfl))),
              RS.StepOK.pure 119 (by kernel_rfl) rfl (fun w => by kernel_rfl),
              RS.StepOK.load 120 (.bool false) (by kernel_rfl) (by kernel_rfl) rfl (fun w hS => run_bin rfl (by kernel_rfl) (by kernel_rfl) (by kernel_rfl) (eql_i64' hbj w)), trivial⟩
          rintro w12 hs
          clear HS
          have HS := Aside0.mk hs
          clear hs
          (try simp only [RS.sets, List.setIfInBounds_toArray, List.set_cons_zero, List.set_cons_succ])
          go_upto_region 19 with (fail)
          refine RS.wp_text [(124, .pointer (some ⟨g1, 3, none⟩)), (125, .int .i64 idx), (126, .int .i64 (j : Int)), (127, .bool true)] (AdT w0 g0 g1 g2 cs (opC 2 R base idx sc dp im true) (cs.setIfInBounds j (.int .u64 (IntKind.u64.wrap (v + y))))) (by kernel_rfl) (by kernel_rfl) HS.out ?_ ?_
          · exact ⟨RS.StepOK.pure 124 (by kernel_rfl) rfl (fun w => by kernel_rfl),
              RS.StepOK.load 125 (.int .i64 idx) (by kernel_rfl) (by kernel_rfl) rfl (fun w hS => run_load rfl (by kernel_rfl) (load_cell (i := 3) (by kernel_rfl) hS.1.2.1 (by kernel_rfl))),
              RS.StepOK.pure 126 (by kernel_rfl) rfl (fun w => by kernel_rfl),
              RS.StepOK.load 127 (.bool true) (by kernel_rfl) (by kernel_rfl) rfl (fun w hS => run_bin rfl (by kernel_rfl) (by kernel_rfl) (by kernel_rfl) (eql_i64 hij w)), trivial⟩
          rintro w14 hs
          clear HS
          have HS := Aside0.mk hs
          clear hs
          (try simp only [RS.sets, List.setIfInBounds_toArray, List.set_cons_zero, List.set_cons_succ])
          have q4 : w14.cell? ⟨g1, 4, none⟩ = some (.int .i64 sc) := by rw [bC_ HS.out.1.2.1]; rfl
          go_upto_region 21 with (fail)
          clear q4
          refine RS.wp_text [(135, .int .i64 0), (136, .bool false), (137, .bool false), (138, .int .u64 (IntKind.u64.wrap (A + moreF base idx sc (j : Int) y))), (139, .int .u64 A), (140, .int .u64 (IntKind.u64.wrap (IntKind.u64.wrap (y * IntKind.u64.wrap sc)))), (141, .int .u64 (IntKind.u64.wrap (A + (IntKind.u64.wrap (IntKind.u64.wrap (y * IntKind.u64.wrap sc)))))), (142, .bool false), (143, .bool false)] (AdT w0 g0 g1 g2 cs (opC 2 R base idx sc dp im true) (cs.setIfInBounds j (.int .u64 (IntKind.u64.wrap (v + y))))) (by kernel_rfl) (by kernel_rfl) HS.out ?_ ?_
          · exact ⟨RS.StepOK.pure 135 (by kernel_rfl) rfl (fun w => by kernel_rfl),
              RS.StepOK.pure 136 (by kernel_rfl) rfl (fun w => by kernel_rfl),
              RS.StepOK.pure 137 (by kernel_rfl) rfl (fun w => by kernel_rfl),
              RS.StepOK.pure 138 (by kernel_rfl) rfl (fun w => by kernel_rfl),
              RS.StepOK.pure 139 (by kernel_rfl) rfl (fun w => by kernel_rfl),
              RS.StepOK.pure 140 (by kernel_rfl) rfl (fun w => by kernel_rfl),
              RS.StepOK.pure 141 (by kernel_rfl) rfl (fun w => by kernel_rfl),
              RS.StepOK.load 142 (.bool false) (by kernel_rfl) (by kernel_rfl) rfl (fun w hS => run_bin rfl (by kernel_rfl) (by kernel_rfl) (by kernel_rfl) (neq_word (x := (IntKind.u64.wrap (A + moreF base idx sc (j : Int) y))) (y := IntKind.u64.wrap (A + (IntKind.u64.wrap (IntKind.u64.wrap (y * IntKind.u64.wrap sc))))) (by unfold moreF; rw [if_pos hij, if_neg hbj] <;> simp only [IntKind.wrap_u64] <;> omega) w)),
              RS.StepOK.pure 143 (by kernel_rfl) rfl (fun w => by kernel_rfl), trivial⟩
          rintro w16 hs
          clear HS
          have HS := Aside0.mk hs
          clear hs
          (try simp only [RS.sets, List.setIfInBounds_toArray, List.set_cons_zero, List.set_cons_succ])
          go_wp2_with fail
          go_roundw
          case rel => exact ⟨j + 1, by omega, by go_num, HS.out.1⟩
          case measure => simp [RowKit.intOf]; omega
        · go_upto_region 17 with (fail)
          refine RS.wp_text [(117, .pointer (some ⟨g1, 2, none⟩)), (118, .int .i64 base), (119, .int .i64 (j : Int)), (120, .bool false)] (AdT w0 g0 g1 g2 cs (opC 2 R base idx sc dp im true) (cs.setIfInBounds j (.int .u64 (IntKind.u64.wrap (v + y))))) (by kernel_rfl) (by kernel_rfl) HS.out ?_ ?_
          · exact ⟨RS.StepOK.pure 117 (by kernel_rfl) rfl (fun w => by kernel_rfl),
              RS.StepOK.load 118 (.int .i64 base) (by kernel_rfl) (by kernel_rfl) rfl (fun w hS => run_load rfl (by kernel_rfl) (load_cell (i := 2) (by kernel_rfl) hS.1.2.1 (by kernel_rfl))),
              RS.StepOK.pure 119 (by kernel_rfl) rfl (fun w => by kernel_rfl),
              RS.StepOK.load 120 (.bool false) (by kernel_rfl) (by kernel_rfl) rfl (fun w hS => run_bin rfl (by kernel_rfl) (by kernel_rfl) (by kernel_rfl) (eql_i64' hbj w)), trivial⟩
          rintro w12 hs
          clear HS
          have HS := Aside0.mk hs
          clear hs
          (try simp only [RS.sets, List.setIfInBounds_toArray, List.set_cons_zero, List.set_cons_succ])
          go_upto_region 19 with (fail)
          refine RS.wp_text [(124, .pointer (some ⟨g1, 3, none⟩)), (125, .int .i64 idx), (126, .int .i64 (j : Int)), (127, .bool false)] (AdT w0 g0 g1 g2 cs (opC 2 R base idx sc dp im true) (cs.setIfInBounds j (.int .u64 (IntKind.u64.wrap (v + y))))) (by kernel_rfl) (by kernel_rfl) HS.out ?_ ?_
          · exact ⟨RS.StepOK.pure 124 (by kernel_rfl) rfl (fun w => by kernel_rfl),
              RS.StepOK.load 125 (.int .i64 idx) (by kernel_rfl) (by kernel_rfl) rfl (fun w hS => run_load rfl (by kernel_rfl) (load_cell (i := 3) (by kernel_rfl) hS.1.2.1 (by kernel_rfl))),
              RS.StepOK.pure 126 (by kernel_rfl) rfl (fun w => by kernel_rfl),
              RS.StepOK.load 127 (.bool false) (by kernel_rfl) (by kernel_rfl) rfl (fun w hS => run_bin rfl (by kernel_rfl) (by kernel_rfl) (by kernel_rfl) (eql_i64' hij w)), trivial⟩
          rintro w14 hs
          clear HS
          have HS := Aside0.mk hs
          clear hs
          (try simp only [RS.sets, List.setIfInBounds_toArray, List.set_cons_zero, List.set_cons_succ])
          go_upto_region 21 with (fail)
          refine RS.wp_text [(135, .int .i64 0), (136, .bool false), (137, .bool false), (138, .int .u64 (IntKind.u64.wrap (A + moreF base idx sc (j : Int) y))), (139, .int .u64 A), (140, .int .u64 0), (141, .int .u64 (IntKind.u64.wrap (A + 0))), (142, .bool false), (143, .bool false)] (AdT w0 g0 g1 g2 cs (opC 2 R base idx sc dp im true) (cs.setIfInBounds j (.int .u64 (IntKind.u64.wrap (v + y))))) (by kernel_rfl) (by kernel_rfl) HS.out ?_ ?_
          · exact ⟨RS.StepOK.pure 135 (by kernel_rfl) rfl (fun w => by kernel_rfl),
              RS.StepOK.pure 136 (by kernel_rfl) rfl (fun w => by kernel_rfl),
              RS.StepOK.pure 137 (by kernel_rfl) rfl (fun w => by kernel_rfl),
              RS.StepOK.pure 138 (by kernel_rfl) rfl (fun w => by kernel_rfl),
              RS.StepOK.pure 139 (by kernel_rfl) rfl (fun w => by kernel_rfl),
              RS.StepOK.pure 140 (by kernel_rfl) rfl (fun w => by kernel_rfl),
              RS.StepOK.pure 141 (by kernel_rfl) rfl (fun w => by kernel_rfl),
              RS.StepOK.load 142 (.bool false) (by kernel_rfl) (by kernel_rfl) rfl (fun w hS => run_bin rfl (by kernel_rfl) (by kernel_rfl) (by kernel_rfl) (neq_word (x := (IntKind.u64.wrap (A + moreF base idx sc (j : Int) y))) (y := IntKind.u64.wrap (A + 0)) (by unfold moreF; rw [if_neg hij, if_neg hbj] <;> simp only [IntKind.wrap_u64] <;> omega) w)),
              RS.StepOK.pure 143 (by kernel_rfl) rfl (fun w => by kernel_rfl), trivial⟩
          rintro w16 hs
          clear HS
          have HS := Aside0.mk hs
          clear hs
          (try simp only [RS.sets, List.setIfInBounds_toArray, List.set_cons_zero, List.set_cons_succ])
          go_wp2_with fail
          go_roundw
          case rel => exact ⟨j + 1, by omega, by go_num, HS.out.1⟩
          case measure => simp [RowKit.intOf]; omega
    · obtain rfl : j = 16 := by omega
      go_wp2_with (first | (go_at_call 6; refine (wakes_calls _ HS.out.2.2.1).mono ?_; rintro e w18 ⟨rfl, hb⟩))
      go_ret
      exact ⟨rfl, below_step HS.out.2.2.2 hb⟩
end Go.Proofs.YtpmclnlgipphmaaDoor.B
