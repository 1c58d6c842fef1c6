/- header.Head: the first bytes. header.TakeSegment, header.TakeSection. -/
import Derived.Test.YtopldeeojehklaaDoorYq6
import Derived.Lib.BufferWrite
import Derived.Laws.Tables
namespace Go.Proofs.YtopldeeojehklaaDoor.B
open Go.RowKit Go.Proofs.YtopldeeojehklaaDoorW.PrintWords Go.Proofs.YtopldeeojehklaaDoorW.PrintMore Go.RF
set_option linter.unusedVariables false
set_option linter.unusedSimpArgs false
attribute [local go_sem] Oper.semAt_some
attribute [local go_sem] max2_int min2_int max_two min_two
theorem load_slice24 {W : World} {ad : Addr} {v : Value} (h : W.cell? ad = some v) : (Instr.loadAt 24 (.pointer (some ad))).run Tryd.prog W = .ok v W := by
  have hu := Tryd.underlying24
  have ha : (isAgg 24).run Tryd.prog W = .ok false W := by unfold isAgg; rw [Sem.run_bind, run_underlying hu]; rfl
  go_simp
theorem load_slice25 {W : World} {ad : Addr} {v : Value} (h : W.cell? ad = some v) : (Instr.loadAt 25 (.pointer (some ad))).run Tryd.prog W = .ok v W := by
  have hu := Tryd.underlying25
  have ha : (isAgg 25).run Tryd.prog W = .ok false W := by unfold isAgg; rw [Sem.run_bind, run_underlying hu]; rfl
  go_simp
theorem run_copy8m {o : Oper} {ρ : Operand → Value} {x y : Operand} {w : World} {g at_ n m dc sc : Nat} {ad : Addr} {L B : List Int} (ho : o.op = .call { callee := .builtin .copy, args := #[x, y], argTypes := #[22, 22] })
    (hx : ρ x = .slice (some ⟨g, at_, none⟩) m dc) (hy : ρ y = .slice (some ad) n sc) (hnm : n ≤ m) (hg : w.heap[g]? = some (.cells (nums .u8 L).toArray 5 (0, 0))) (hB : B.length = n) (hs : ∀ j, j < n → w.cell? (ad.add j) = some (.int .u8 (B.getD j 0))) (hfit : at_ + n ≤ L.length) :
    (execOp ρ o).run Tryd.prog w = .ok (.value (goInt n)) (w.setRow g (nums .u8 (splice L at_ B)).toArray) := by
  have hu : Tryd.prog.underlying 22 = some (.slice 5) := by kernel_rfl
  have hsz : (Tryd.prog.info? 5).map (·.size) = some 1 := by kernel_rfl
  have hl : (nums .u8 B).length = n := by simp [nums, hB]
  have h := run_copy_row (P := Tryd.prog) w 22 22 o.type 5 g at_ m dc ad n sc (nums .u8 L).toArray 5 (nums .u8 B) hu hsz hg (by rw [hl]; exact (Nat.min_eq_left hnm).symm) (fun j v hv => by
    have hj := (List.getElem?_eq_some_iff.1 hv).1
    rw [hl] at hj
    rw [hs j hj, ← hv]
    unfold nums
    rw [List.getElem?_map, List.getD_eq_getElem?_getD, List.getElem?_eq_getElem (by omega)]
    rfl) (by rw [hl]; simp [nums]; omega) (fun v hv => by
      unfold nums at hv
      obtain ⟨a, _, rfl⟩ := List.mem_map.1 hv
      rfl)
  have e : (((nums .u8 L).toArray.toList.take at_ ++ nums .u8 B ++ (nums .u8 L).toArray.toList.drop (at_ + (nums .u8 B).length)).toArray) = (nums .u8 (splice L at_ B)).toArray := by
    simp [nums, splice]
  rw [e, hl] at h
  unfold execOp
  simp [ho, resolve, invoke, builtin, hx, hy, h, Result.andThen]
def elfS : List Int := [127, 69, 76, 70]
def mustF : List (Nat × Nat × Int) := [(4, 1, 2), (5, 1, 1), (6, 1, 1), (16, 2, 2), (18, 2, 62), (20, 4, 1), (48, 4, 0), (52, 2, 64)]
theorem index_must (i : Nat) (hi : i < 8) : ∃ f : Nat × Nat × Int, mustF.getD i (0, 0, 0) = f ∧ (1 ≤ f.2.1 ∧ f.2.1 ≤ 8 ∧ f.1 + f.2.1 ≤ 64) ∧ ∀ W, (Instr.index 69 (.agg mustV) (.int .i64 (i : Int))).run Tryd.prog W = .ok (.agg #[.int .i64 (f.1 : Int), .int .i64 (f.2.1 : Int), .int .u64 f.2.2]) W := by
  have : i = 0 ∨ i = 1 ∨ i = 2 ∨ i = 3 ∨ i = 4 ∨ i = 5 ∨ i = 6 ∨ i = 7 := by omega
  rcases this with rfl | rfl | rfl | rfl | rfl | rfl | rfl | rfl
  all_goals exact ⟨_, rfl, by decide, fun W => by kernel_rfl⟩
theorem run_slice1 {o : Oper} {ρ : Operand → Value} {x y : Operand} {a b v : Value} {w : World} (ho : o.op = .slice 22 x (some y) none none) (hx : ρ x = a) (hy : ρ y = b) (h : (Instr.slice 22 a (some b) none none).run Tryd.prog w = .ok v w) :
    (execOp ρ o).run Tryd.prog w = .ok (.value v) w := by
  have hu : Tryd.prog.underlying 22 = some (.slice (Tryd.prog.elem 22)) := by kernel_rfl
  unfold execOp
  simp only [ho, Option.map_some, Option.map_none, hx, hy, Sem.run_bind, run_sliceAt_slice _ _ _ _ _ _ hu, h, Result.andThen_ok, Sem.run_pure]
theorem slice_from (g n k : Nat) (h : k < n) (W : World) :
    (Instr.slice 22 (.slice (some ⟨g, 0, none⟩) n n) (some (.int .i64 (k : Int))) none none).run Tryd.prog W = .ok (.slice (some ⟨g, k, none⟩) (n - k) (n - k)) W := by
  have hu : Tryd.prog.underlying 22 = some (.slice 5) := by kernel_rfl
  have hcl : Tryd.prog.cellsOf 5 = 1 := by kernel_rfl
  have h1 : (0 : Int) ≤ (k : Int) := by omega
  have h2 : (k : Int) ≤ (n : Int) := by omega
  have e := addz g k
  go_simp
  intro e
  omega
def MuS (w0 : World) (gb g9 : Nat) (f : Nat × Nat × Int) (w : World) : Prop :=
  w.heap[g9]? = some (.cells #[.int .i64 (f.1 : Int), .int .i64 (f.2.1 : Int), .int .u64 f.2.2] 68 (0, 0)) ∧ Below w0.heap.size w0 w ∧ gb < w.heap.size
theorem MuS.met {w0 : World} {gb g9 : Nat} {f : Nat × Nat × Int} {w w' : World} (h : MuS w0 gb g9 f w) (hb : Below w.heap.size w w') : MuS w0 gb g9 f w' :=
  ⟨heap_below hb h.1, below_step h.2.1 hb, Nat.lt_of_lt_of_le h.2.2 hb.size⟩
def MuE (w0 : World) (gb g9 : Nat) (f : Nat × Nat × Int) (L : List Int) (k : Nat → Bool) (ch : Nat × Nat) (w : World) : Prop :=
  MuS w0 gb g9 f w ∧ w.heap[gb]? = some (.cells (nums .u8 (bif k 11 then splice L f.1 (bytesN f.2.2 f.2.1) else L)).toArray 5 (0, 0)) ∧
  (k 10 = true → k 11 = false → gb < ch.1 ∧ ∀ j, j < f.2.1 → w.cell? ((⟨ch.1, 0, none⟩ : Addr).add j) = some (.int .u8 ((bytesN f.2.2 f.2.1).getD j 0)))
def mustP (L : List Int) : Nat → List Int
  | 0 => L
  | i + 1 => splice (mustP L i) (mustF.getD i (0, 0, 0)).1 (bytesN (mustF.getD i (0, 0, 0)).2.2 (mustF.getD i (0, 0, 0)).2.1)
theorem copyS_run {w : World} {g : Nat} {L : List Int} (hg : w.heap[g]? = some (.cells (nums .u8 L).toArray 5 (0, 0))) (hL : 4 ≤ L.length) :
    Sem.run Tryd.prog (Builtin.copy_ #[22, 9] 3 #[.slice (some ⟨g, 0, none⟩) 64 64, .string { data := #[127, 69, 76, 70] }]) w = .ok (goInt 4) (w.setRow g (nums .u8 (splice L 0 elfS)).toArray) := by
  have hu : Tryd.prog.underlying 22 = some (.slice 5) := by kernel_rfl
  have hsz : (Tryd.prog.info? 5).map (·.size) = some 1 := by kernel_rfl
  have h := Go.Lib.run_copy_row_string (P := Tryd.prog) w 22 9 3 5 g 0 64 64 { data := #[127, 69, 76, 70] } (nums .u8 L).toArray 5 hu hsz hg (by decide) (by show 0 + 4 ≤ _; simp [nums]; omega)
  have e : (((nums .u8 L).toArray.toList.take 0 ++ Go.Lib.byteCells ({ data := #[127, 69, 76, 70] } : ByteArray).data.toList ++ (nums .u8 L).toArray.toList.drop (0 + ({ data := #[127, 69, 76, 70] } : ByteArray).size)).toArray) = (nums .u8 (splice L 0 elfS)).toArray := by
    simp [nums, splice, elfS, Go.Lib.byteCells]
    rfl
  rw [e] at h
  exact h
theorem must_load {w : World} (hT : Tab w) : (Instr.loadAt 69 (.pointer (some ⟨1, 0, none⟩))).run Tryd.prog w = .ok (.agg mustV) w := by
  obtain ⟨tt, fr, hm⟩ := hT.2.1
  simp only [Instr.loadAt, Instr.sureAddr, Sem.run_bind, Sem.run_pure, Result.andThen_ok, run_loadVar_row w 1 tt 69 mustV fr _ hm Tryd.underlying69 rfl (by kernel_rfl)]
theorem mustP_len (L : List Int) (hL : L.length = 64) : ∀ i, i ≤ 8 → (mustP L i).length = 64
  | 0, _ => hL
  | i + 1, hi => by
    unfold mustP
    obtain ⟨f, hfe, hwf, -⟩ := index_must i (by omega)
    rw [hfe, length_splice _ _ _ (by rw [bytesN_length, mustP_len L hL i (by omega)]; omega), mustP_len L hL i (by omega)]
set_option maxHeartbeats 8000000 in
set_option maxRecDepth 100000 in
theorem head1_calls {α β : Type} (a0 a1 a2 : Int) (A3 A4 : Option Addr) (l3 : List α) (l4 : List β) (c3 c4 : Nat) (w : World) (hT : Tab w) : Calls Tryd.prog 14 #[.agg #[.int .u64 a0, .int .u64 a1, .int .u64 a2, .slice A3 l3.length c3, .slice A4 l4.length c4]] w fun e w' => ∃ v, e = .returned v ∧ Rw w.heap.size v (mustP (splice (laidL 64 placesF [a0, a1, a2, IntKind.u64.wrap (l3.length : Int), IntKind.u64.wrap (l4.length : Int), 56, 64] 7) 0 elfS) 8) w' ∧ Below w.heap.size w w' := by
  have HT := Aside0.mk hT
  obtain ⟨L, hL⟩ : ∃ L, laidL 64 placesF [a0, a1, a2, IntKind.u64.wrap (l3.length : Int), IntKind.u64.wrap (l4.length : Int), 56, 64] 7 = L := ⟨_, rfl⟩
  have HLE := Aside0.mk hL
  have HLL := Aside0.mk (show L.length = 64 by rw [← hL]; exact laidL_len _ plaW _ (Nat.le_refl _))
  rw [hL]
  clear hL
  have hb : Below w.heap.size w (w.alloc (.cells #[.int .u64 a0, .int .u64 a1, .int .u64 a2, .slice A3 l3.length c3, .slice A4 l4.length c4] 27)) := bX_ (Below.refl _ _) _
  have hs : Aside0 ((w.alloc (.cells #[.int .u64 a0, .int .u64 a1, .int .u64 a2, .slice A3 l3.length c3, .slice A4 l4.length c4] 27)).heap[w.heap.size]? = some (.cells #[.int .u64 a0, .int .u64 a1, .int .u64 a2, .slice A3 l3.length c3, .slice A4 l4.length c4] 27 (0, 0)) ∧ Below w.heap.size w (w.alloc (.cells #[.int .u64 a0, .int .u64 a1, .int .u64 a2, .slice A3 l3.length c3, .slice A4 l4.length c4] 27)) ∧ FTab (w.alloc (.cells #[.int .u64 a0, .int .u64 a1, .int .u64 a2, .slice A3 l3.length c3, .slice A4 l4.length c4] 27)) 0 placesF ∧ w.heap.size ≤ w.heap.size + 1 ∧ (w.alloc (.cells #[.int .u64 a0, .int .u64 a1, .int .u64 a2, .slice A3 l3.length c3, .slice A4 l4.length c4] 27)).heap.size = w.heap.size + 1 ∧ 0 < (w.alloc (.cells #[.int .u64 a0, .int .u64 a1, .int .u64 a2, .slice A3 l3.length c3, .slice A4 l4.length c4] 27)).heap.size) :=
    ⟨World.alloc_heap_new w _, hb, FTab.below hT.1 hb, by omega, World.size_alloc _ _, by rw [World.size_alloc]; have := hT.2.2.2.2; omega⟩
  have HS := hs
  clear hs hb
  go_enter Tryd.func14, Tryd.ntmps14
  go_upto_region 1 with (fail)
  generalize w.alloc (.cells #[.int .u64 a0, .int .u64 a1, .int .u64 a2, .slice A3 l3.length c3, .slice A4 l4.length c4] 27) = w1 at *
  obtain ⟨g1, hg1⟩ : ∃ g1, w.heap.size = g1 := ⟨_, rfl⟩
  obtain ⟨s0, hs0⟩ : ∃ s0, w.heap.size + 1 = s0 := ⟨_, rfl⟩
  have HS : Aside0 (w1.heap[g1]? = some (.cells #[.int .u64 a0, .int .u64 a1, .int .u64 a2, .slice A3 l3.length c3, .slice A4 l4.length c4] 27 (0, 0)) ∧ Below w.heap.size w w1 ∧ FTab w1 0 placesF ∧ w.heap.size ≤ s0 ∧ w1.heap.size = s0 ∧ 0 < w1.heap.size) := by rw [← hg1, ← hs0]; exact HS
  rw [hg1]
  clear hg1 hs0
  refine RS.wp_choice (C := Value) (by kernel_rfl) (fun ch => (22, ch) :: (3, ch) :: [(6, .slice (some ⟨0, 0, none⟩) 7 7), (7, .pointer (some ⟨g1, 0, none⟩)), (8, .int .u64 a0), (9, .pointer (some ⟨g1, 1, none⟩)), (10, .int .u64 a1), (11, .pointer (some ⟨g1, 2, none⟩)), (12, .int .u64 a2), (13, .pointer (some ⟨g1, 3, none⟩)), (14, .slice A3 l3.length c3), (15, .int .i64 (l3.length : Int)), (16, .int .u64 (IntKind.u64.wrap (l3.length : Int))), (17, .pointer (some ⟨g1, 4, none⟩)), (18, .slice A4 l4.length c4), (19, .int .i64 (l4.length : Int)), (20, .int .u64 (IntKind.u64.wrap (l4.length : Int))), (21, .slice (some ⟨s0, 0, none⟩) 7 7)]) (PutE w g1 s0 27 15 16 0 #[.int .u64 a0, .int .u64 a1, .int .u64 a2, .slice A3 l3.length c3, .slice A4 l4.length c4] placesF 64 [a0, a1, a2, IntKind.u64.wrap (l3.length : Int), IntKind.u64.wrap (l4.length : Int), 56, 64]) (by kernel_rfl) (fun ch => by kernel_rfl) undef (fun k hk => ?_) ?_ ?_
  · exact ⟨HS.out.1, bY_ HS.out.2.1, HS.out.2.2.1, HS.out.2.2.2.1, fun _ => HS.out.2.2.2.2.1, fun e => (by rw [hk 15 (by decide)] at e; cases e), fun e => (by rw [hk 16 (by decide)] at e; cases e), HS.out.2.2.2.2.2⟩
  · exact ⟨RS.StepC.of (fun ch => RS.StepE.pure 6 (by kernel_rfl) rfl (fun w => by kernel_rfl) (fun f w h => h)),
      RS.StepC.of (fun ch => RS.StepE.pure 7 (by kernel_rfl) rfl (fun w => by kernel_rfl) (fun f w h => h)),
      RS.StepC.of (fun ch => RS.StepE.load 8 (.int .u64 a0) (by kernel_rfl) (by kernel_rfl) rfl (fun f w h => h) (fun k w p1 p2 h => run_load rfl (by kernel_rfl) (load_cell (k := .u64) Tryd.underlying23 ((bC_ h.1 0).trans rfl)))),
      RS.StepC.of (fun ch => RS.StepE.pure 9 (by kernel_rfl) rfl (fun w => by kernel_rfl) (fun f w h => h)),
      RS.StepC.of (fun ch => RS.StepE.load 10 (.int .u64 a1) (by kernel_rfl) (by kernel_rfl) rfl (fun f w h => h) (fun k w p1 p2 h => run_load rfl (by kernel_rfl) (load_cell (k := .u64) Tryd.underlying23 ((bC_ h.1 1).trans rfl)))),
      RS.StepC.of (fun ch => RS.StepE.pure 11 (by kernel_rfl) rfl (fun w => by kernel_rfl) (fun f w h => h)),
      RS.StepC.of (fun ch => RS.StepE.load 12 (.int .u64 a2) (by kernel_rfl) (by kernel_rfl) rfl (fun f w h => h) (fun k w p1 p2 h => run_load rfl (by kernel_rfl) (load_cell (k := .u64) Tryd.underlying23 ((bC_ h.1 2).trans rfl)))),
      RS.StepC.of (fun ch => RS.StepE.pure 13 (by kernel_rfl) rfl (fun w => by kernel_rfl) (fun f w h => h)),
      RS.StepC.of (fun ch => RS.StepE.load 14 (.slice A3 l3.length c3) (by kernel_rfl) (by kernel_rfl) rfl (fun f w h => h) (fun k w p1 p2 h => run_load rfl (by kernel_rfl) (load_slice24 ((bC_ h.1 3).trans rfl)))),
      RS.StepC.of (fun ch => RS.StepE.pure 15 (by kernel_rfl) rfl (fun w => by kernel_rfl) (fun f w h => h)),
      RS.StepC.of (fun ch => RS.StepE.pure 16 (by kernel_rfl) rfl (fun w => by kernel_rfl) (fun f w h => h)),
      RS.StepC.of (fun ch => RS.StepE.pure 17 (by kernel_rfl) rfl (fun w => by kernel_rfl) (fun f w h => h)),
      RS.StepC.of (fun ch => RS.StepE.load 18 (.slice A4 l4.length c4) (by kernel_rfl) (by kernel_rfl) rfl (fun f w h => h) (fun k w p1 p2 h => run_load rfl (by kernel_rfl) (load_slice25 ((bC_ h.1 4).trans rfl)))),
      RS.StepC.of (fun ch => RS.StepE.pure 19 (by kernel_rfl) rfl (fun w => by kernel_rfl) (fun f w h => h)),
      RS.StepC.of (fun ch => RS.StepE.pure 20 (by kernel_rfl) rfl (fun w => by kernel_rfl) (fun f w h => h)),
      RS.StepC.of (fun ch => RS.StepE.event (.slice (some ⟨s0, 0, none⟩) 7 7) (by intro d hd; cases hd; kernel_rfl) (by kernel_rfl) (fun k w h0 p1 p2 h => by
        have h0 : k 15 = false := h0
        have e1 : k 16 = false := p2 16 (by kernel_rfl) (by decide)
        obtain ⟨q1, q2, q3, q4, q5, q6, q7, q8⟩ := h
        have hz := q5 h0
        have hb : Below w.heap.size w (w.alloc (.cells (nums .u64 [a0, a1, a2, IntKind.u64.wrap (l3.length : Int), IntKind.u64.wrap (l4.length : Int), 56, 64]).toArray 23)) := bX_ (Below.refl _ _) _
        refine ⟨w.alloc (.cells (nums .u64 [a0, a1, a2, IntKind.u64.wrap (l3.length : Int), IntKind.u64.wrap (l4.length : Int), 56, 64]).toArray 23), .inl ?_, heap_below hb q1, below_step q2 hb, q3.below hb, q4, fun e => (by cases e), fun _ => (by rw [← hz]; exact World.alloc_heap_new w _), fun e => (by have e : k 16 = true := e; rw [e1] at e; cases e), Nat.lt_of_lt_of_le q8 hb.size⟩
        rw [← hz]
        kernel_rfl)),
      RS.StepC.chooseCall 32 (fun ch => #[.int .i64 64, .slice (some ⟨0, 0, none⟩) 7 7, .slice (some ⟨s0, 0, none⟩) 7 7]) (fun ch => by kernel_rfl) (fun ch w => by kernel_rfl) (fun k ch w h0 p1 p2 h => by
        have h0 : k 16 = false := h0
        have eb : k 15 = true := p1 15 (by kernel_rfl)
        obtain ⟨q1, q2, q3, q4, q5, q6, q7, q8⟩ := h
        have hrow := q6 eb
        refine (laid_calls 64 0 placesF ⟨s0, 0, none⟩ 7 [a0, a1, a2, IntKind.u64.wrap (l3.length : Int), IntKind.u64.wrap (l4.length : Int), 56, 64] w q3 (row_cells hrow) rfl plaW (by decide) (by decide) q8 (Array.getElem?_eq_some_iff.1 hrow).1).mono ?_
        rintro e w' ⟨v, rfl, ho, hb⟩
        refine ⟨v, v, rfl, fun d hd => by cases hd; kernel_rfl, fun j p d hj hp hl => ?_, heap_below hb q1, below_step q2 hb, q3.below hb, q4, fun e => (by have e : k 15 = false := e; rw [eb] at e; cases e), fun _ => heap_below hb hrow, fun _ => ho.mono q2.size, Nat.lt_of_lt_of_le q8 hb.size⟩
        have e2 : k 17 = false := p2 17 (by kernel_rfl) (by decide)
        exact RS.two_but (i := 16) (j := 17) (md := .any) (by kernel_rfl) rfl rfl rfl rfl (by decide) h0 e2 j p d hj hp hl),
      RS.StepC.of (fun ch => RS.StepE.pure 3 (by kernel_rfl) rfl (fun w => by kernel_rfl) (fun f w h => h)), trivial⟩
  rintro k ch w6 hk ⟨q1, q2, q3, q4, q5, q6, q7, q8⟩
  have HO := Aside0.mk (q7 (hk _))
  have HB := Aside0.mk q2
  clear q1 q2 q3 q4 q5 q6 q7 q8 HS
  (try simp only [RS.sets, List.setIfInBounds_toArray, List.set_cons_zero, List.set_cons_succ])
  obtain ⟨gq, rfl, hgq, hrow, -⟩ := HO.out
  have hrow : w6.heap[gq]? = some (.cells (nums .u8 L).toArray 5 (0, 0)) := by rw [← HLE.out]; exact hrow
  have hlen : (laidL 64 placesF [a0, a1, a2, IntKind.u64.wrap (l3.length : Int), IntKind.u64.wrap (l4.length : Int), 56, 64] placesF.length).length = 64 := by rw [show laidL 64 placesF [a0, a1, a2, IntKind.u64.wrap (l3.length : Int), IntKind.u64.wrap (l4.length : Int), 56, 64] placesF.length = L from HLE.out]; exact HLL.out
  rw [hlen]
  have hcp : Sem.run Tryd.prog (Builtin.copy_ #[22, 9] 3 #[.slice (some ⟨gq, 0, none⟩) 64 64, .string { data := #[127, 69, 76, 70] }]) w6 = .ok (goInt 4) (w6.setRow gq (nums .u8 (splice L 0 elfS)).toArray) := copyS_run hrow (by rw [HLL.out]; decide)
  have hs7 : (w6.setRow gq (nums .u8 (splice L 0 elfS)).toArray).heap[gq]? = some (.cells (nums .u8 (splice L 0 elfS)).toArray 5 (0, 0)) := setRow_heap w6 gq _ _ 5 (0, 0) hrow
  have hb7 : Below w.heap.size w (w6.setRow gq (nums .u8 (splice L 0 elfS)).toArray) := below_setRow HB.out hgq _
  clear HO hlen hrow
  go_upto_region 3 with (fail)
  clear hcp
  generalize w6.setRow gq (nums .u8 (splice L 0 elfS)).toArray = w7 at *
  have hl0 : (splice L 0 elfS).length = 64 := by rw [length_splice _ _ _ (by rw [HLL.out]; decide), HLL.out]
  generalize hL0e : splice L 0 elfS = L0 at *
  have HL0E := Aside0.mk hL0e
  have HL0 := Aside0.mk hl0
  have H7 := Aside0.mk hs7
  have HB7 := Aside0.mk hb7
  have HGQ := Aside0.mk hgq
  have HS3 := Aside0.mk (show w7.heap[gq]? = some (.cells (nums .u8 L0).toArray 5 (0, 0)) ∧ Tab w7 ∧ Below w.heap.size w w7 from ⟨hs7, HT.out.below hb7, hb7⟩)
  clear HB hs7 hb7 hgq hl0 H7 HB7 hL0e
  refine RS.wp_text [(25, .agg mustV), (26, .int .i64 0)] (fun w7 => w7.heap[gq]? = some (.cells (nums .u8 L0).toArray 5 (0, 0)) ∧ Tab w7 ∧ Below w.heap.size w w7) (by kernel_rfl) (by kernel_rfl) HS3.out ?_ ?_
  · exact ⟨RS.StepOK.load 25 (.agg mustV) (by kernel_rfl) (by kernel_rfl) rfl (fun w hS => run_load rfl (by kernel_rfl) (must_load hS.2.1)),
      RS.StepOK.pure 26 (by kernel_rfl) rfl (fun w => by kernel_rfl), trivial⟩
  rintro w8 hs8
  have H7 := Aside0.mk hs8.1
  have HB7 := Aside0.mk hs8.2.2
  clear hs8 HS3
  (try simp only [RS.sets, List.setIfInBounds_toArray, List.set_cons_zero, List.set_cons_succ])
  go_wp2_with fail
  go_loopw [26] (fun v wr => ∃ i : Nat, i ≤ 8 ∧ v = .int .i64 (i : Int) ∧ wr.heap[gq]? = some (.cells (nums .u8 (mustP L0 i)).toArray 5 (0, 0)) ∧ Below w.heap.size w wr) (fun v _ => (8 - intOf v).toNat)
  case atStart => exact ⟨0, by omega, rfl, H7.out, HB7.out⟩
  case round =>
    obtain ⟨i, hi, rfl, hL, hb⟩ := hrel
    have HLB := Aside0.mk hL
    have HB := Aside0.mk hb
    clear hL hb
    by_cases hin : i < 8
    · obtain ⟨f, hfe, hwf, hix⟩ := index_must i hin
      have hls : mustP L0 (i + 1) = splice (mustP L0 i) (mustF.getD i (0, 0, 0)).1 (bytesN (mustF.getD i (0, 0, 0)).2.2 (mustF.getD i (0, 0, 0)).2.1) := rfl
      rw [hfe] at hls
      have hll := mustP_len L0 HL0.out i hi
      generalize mustP L0 i = L1 at *
      have HWF := Aside0.mk hwf
      have HLL1 := Aside0.mk hll
      have HLS := Aside0.mk hls
      have e1 : decide ((i : Int) < 8) = true := decide_eq_true (by omega)
      clear hwf hls hll hfe
      go_upto_region 6 with (fail)
      clear hix
      have hb2 : Below wr.heap.size wr (wr.alloc (.cells #[.int .i64 (f.1 : Int), .int .i64 (f.2.1 : Int), .int .u64 f.2.2] 68)) := bX_ (Below.refl _ _) _
      have hn2 := World.alloc_heap_new wr (.cells #[.int .i64 (f.1 : Int), .int .i64 (f.2.1 : Int), .int .u64 f.2.2] 68)
      have hgl : gq < wr.heap.size := (Array.getElem?_eq_some_iff.1 HLB.out).1
      have HS5 : Aside0 (MuS w gq wr.heap.size f (wr.alloc (.cells #[.int .i64 (f.1 : Int), .int .i64 (f.2.1 : Int), .int .u64 f.2.2] 68)) ∧ (wr.alloc (.cells #[.int .i64 (f.1 : Int), .int .i64 (f.2.1 : Int), .int .u64 f.2.2] 68)).heap[gq]? = some (.cells (nums .u8 L1).toArray 5 (0, 0))) :=
        ⟨⟨hn2, below_step HB.out hb2, Nat.lt_of_lt_of_le hgl hb2.size⟩, heap_below hb2 HLB.out⟩
      have HGG := Aside0.mk hgl
      generalize wr.alloc (.cells #[.int .i64 (f.1 : Int), .int .i64 (f.2.1 : Int), .int .u64 f.2.2] 68) = w5 at *
      generalize wr.heap.size = g9 at *
      clear hb2 hn2 hgl HLB HB
      refine RS.wp_choice (C := Nat × Nat) (by kernel_rfl) (fun ch => (39, .slice (some ⟨ch.1, 0, none⟩) f.2.1 ch.2) :: [(29, .slice (some ⟨gq, 0, none⟩) 64 64), (30, .pointer (some ⟨g9, 0, none⟩)), (31, .pointer (some ⟨g9, 0, none⟩)), (32, .int .i64 (f.1 : Int)), (33, .slice (some ⟨gq, f.1, none⟩) (64 - f.1) (64 - f.1)), (34, .pointer (some ⟨g9, 2, none⟩)), (35, .int .u64 f.2.2), (36, .pointer (some ⟨g9, 0, none⟩)), (37, .pointer (some ⟨g9, 1, none⟩)), (38, .int .i64 (f.2.1 : Int)), (40, goInt (f.2.1 : Nat))]) (MuE w gq g9 f L1) (by kernel_rfl) (fun ch => by kernel_rfl) (0, 0) (fun k hk => ?_) ?_ ?_
      · exact ⟨⟨HS5.out.1.1, bY_ HS5.out.1.2.1, HS5.out.1.2.2⟩, by rw [hk 11 (by decide)]; exact HS5.out.2, fun e => (by rw [hk 10 (by decide)] at e; cases e)⟩
      · exact ⟨RS.StepC.of (fun ch => RS.StepE.pure 29 (by kernel_rfl) rfl (fun w => by kernel_rfl) (fun f w h => h)),
          RS.StepC.of (fun ch => RS.StepE.pure 30 (by kernel_rfl) rfl (fun w => by kernel_rfl) (fun f w h => h)),
          RS.StepC.of (fun ch => RS.StepE.pure 31 (by kernel_rfl) rfl (fun w => by kernel_rfl) (fun f w h => h)),
          RS.StepC.of (fun ch => RS.StepE.load 32 (.int .i64 (f.1 : Int)) (by kernel_rfl) (by kernel_rfl) rfl (fun f w h => h) (fun k w p1 p2 h => run_load rfl (by kernel_rfl) (load_cell (k := .i64) Tryd.underlying3 ((bC_ h.1.1 0).trans rfl)))),
          RS.StepC.of (fun ch => RS.StepE.load 33 (.slice (some ⟨gq, f.1, none⟩) (64 - f.1) (64 - f.1)) (by kernel_rfl) (by kernel_rfl) rfl (fun f w h => h) (fun k w p1 p2 h => run_slice1 rfl (by kernel_rfl) (by kernel_rfl) (slice_from gq 64 f.1 (by have := HWF.out; omega) w))),
          RS.StepC.of (fun ch => RS.StepE.pure 34 (by kernel_rfl) rfl (fun w => by kernel_rfl) (fun f w h => h)),
          RS.StepC.of (fun ch => RS.StepE.load 35 (.int .u64 f.2.2) (by kernel_rfl) (by kernel_rfl) rfl (fun f w h => h) (fun k w p1 p2 h => run_load rfl (by kernel_rfl) (load_cell (k := .u64) Tryd.underlying23 ((bC_ h.1.1 2).trans rfl)))),
          RS.StepC.of (fun ch => RS.StepE.pure 36 (by kernel_rfl) rfl (fun w => by kernel_rfl) (fun f w h => h)),
          RS.StepC.of (fun ch => RS.StepE.pure 37 (by kernel_rfl) rfl (fun w => by kernel_rfl) (fun f w h => h)),
          RS.StepC.of (fun ch => RS.StepE.load 38 (.int .i64 (f.2.1 : Int)) (by kernel_rfl) (by kernel_rfl) rfl (fun f w h => h) (fun k w p1 p2 h => run_load rfl (by kernel_rfl) (load_cell (k := .i64) Tryd.underlying3 ((bC_ h.1.1 1).trans rfl)))),
          RS.StepC.chooseCall 33 (fun ch => #[.int .u64 f.2.2, .int .i64 (f.2.1 : Int)]) (fun ch => by kernel_rfl) (fun ch w => by kernel_rfl) (fun k ch w h0 p1 p2 h => by
            have h0 : k 10 = false := h0
            have e16 : k 11 = false := p2 11 (by kernel_rfl) (by decide)
            refine (Bytes_calls f.2.2 f.2.1 HWF.out.1 HWF.out.2.1 w).mono ?_
            rintro e w' ⟨v, rfl, ho, hb⟩
            obtain ⟨gy, cq, rfl, hgy, hcq⟩ := own_cells ho HWF.out.1 (bytesN_length _ _)
            refine ⟨_, (gy, cq), rfl, fun d hd => by cases hd; kernel_rfl, RS.Agree.slot (n := 10) (k := 39) (md := .any) (by kernel_rfl) rfl rfl h0 (fun d hne => RS.sets_but _ _ 39 _ _ d hne), h.1.met hb, ?_, fun _ _ => ⟨by have := h.1.2.2; omega, hcq⟩⟩
            exact heap_below hb h.2.1),
          RS.StepC.of (fun ch => RS.StepE.event (goInt (f.2.1 : Nat)) (by intro d hd; cases hd; kernel_rfl) (by kernel_rfl) (fun k w h0 p1 p2 h => by
            have h0 : k 11 = false := h0
            have e15 : k 10 = true := p1 10 (by kernel_rfl)
            obtain ⟨hS, hL, hB⟩ := h
            obtain ⟨hx, hc⟩ := hB e15 h0
            rw [h0] at hL
            refine ⟨_, .inl (run_copy8m (ad := ⟨ch.1, 0, none⟩) (m := 64 - f.1) (dc := 64 - f.1) (sc := ch.2) (L := L1) (B := bytesN f.2.2 f.2.1) rfl (by kernel_rfl) (by kernel_rfl) (by have := HWF.out; omega) hL (bytesN_length _ _) hc (by rw [HLL1.out]; exact HWF.out.2.2)), ?_, ?_, fun _ e => by cases e⟩
            · obtain ⟨s1, s2, s3⟩ := hS
              have hne : g9 ≠ gq := by have := HGG.out; omega
              exact ⟨(setRow_other w gq g9 _ hne).trans s1, below_setRow s2 HGQ.out _, by simpa [World.setRow] using s3⟩
            · exact setRow_heap w gq _ _ 5 (0, 0) hL)), trivial⟩
      rintro k ch w6 hk hs
      (try simp only [RS.sets, List.setIfInBounds_toArray, List.set_cons_zero, List.set_cons_succ])
      obtain ⟨hs1, hs2, -⟩ := hs
      rw [hk] at hs2
      have HS6 := Aside0.mk hs1
      have HL6 := Aside0.mk hs2
      clear hs1 hs2 HS5
      go_wp2_with fail
      go_roundw
      case rel => exact ⟨i + 1, by omega, by go_num, by rw [HLS.out]; exact HL6.out, HS6.out.2.1⟩
      case measure => simp [intOf]; omega
    · have hie : i = 8 := by omega
      subst hie
      have e1 : decide (((8 : Nat) : Int) < 8) = false := by decide
      go_wp2
      go_ret
      have hl : (mustP (splice L 0 elfS) 8).length = 64 := by rw [HL0E.out]; exact mustP_len L0 HL0.out 8 (Nat.le_refl _)
      exact ⟨_, rfl, ⟨gq, by rw [hl]; rfl, HGQ.out, by rw [HL0E.out]; exact HLB.out, by rw [hl]; decide⟩, HB.out⟩
end Go.Proofs.YtopldeeojehklaaDoor.B
namespace Go.Proofs.YtopldeeojehklaaDoor.B
open Go.RowKit Go.Proofs.YtopldeeojehklaaDoorW.PrintWords Go.Proofs.YtopldeeojehklaaDoorW.PrintMore Go.RF
set_option linter.unusedVariables false
set_option linter.unusedSimpArgs false
attribute [local go_sem] Oper.semAt_some
attribute [local go_sem] max2_int min2_int max_two min_two
theorem results_ctB {P : Program} {fn : Func} {p q : Tmp} {ty : TypeId} (h : fn.results = #[.cell p ty, .tmp q]) (tmps : Array Value) (w : World) (g : Nat) (t : TypeId) (cs : Array Value) (fr : Nat × Nat) (d : TypeDesc)
    (hp : tmps.getD p undef = .pointer (some ⟨g, 0, none⟩)) (v : Value) (hq : tmps.getD q undef = v) (hg : w.heap[g]? = some (.cells cs t fr))
    (hu : P.underlying ty = some d) (hd : (match d with | .struct _ | .array _ _ => true | _ => false) = true) (hi : (P.info? ty).map (·.size) = some cs.size) :
    (results fn tmps).run P w = .ok (.tuple #[.agg cs, v]) w := by
  have hp' : tmps[p]?.getD undef = .pointer (some ⟨g, 0, none⟩) := by simpa using hp
  have hq' : tmps[q]?.getD undef = v := by simpa using hq
  simp [results, h, hp', hq', asAddr, run_loadVar_row w g t ty cs fr d hg hu hd hi]
theorem run_store_row {P : Program} {o : Oper} {ρ : Operand → Value} {ty : TypeId} {x y : Operand} {w : World} {g : Nat} {cells old : Array Value} {t : TypeId} (ho : o.op = .store ty x y) (hx : ρ x = .pointer (some ⟨g, 0, none⟩)) (hy : ρ y = .agg cells)
    (hg : w.heap[g]? = some (.cells old t (0, 0))) (hi : (P.info? ty).map (·.size) = some cells.size) (hold : old.size = cells.size) (h1 : cells.all (·.oneCell') = true) : (execOp ρ o).run P w = .ok .skip (w.setRow g cells) := by
  unfold execOp
  simp only [ho, hx, hy, Instr.storeAt, Instr.sureAddr, Sem.run_bind, Sem.run_pure, Result.andThen_ok, run_storeVar_row w g t ty old cells hg hi hold h1]
theorem own_cells64 {w : World} {base n : Nat} {v : Value} {B : List Int} (h : w.ownsRow base 23 1 v n (nums .u64 B)) (hn : 1 ≤ n) (hB : B.length = n) :
    ∃ g c, v = .slice (some ⟨g, 0, none⟩) n c ∧ base ≤ g ∧ ∀ j x, B[j]? = some x → w.cell? ⟨g, j, none⟩ = some (.int .u64 x) := by
  rcases h.2 with ⟨-, h0⟩ | ⟨g, cap, cur, rfl, hg, hh, h1, h2, h3, h4⟩
  · omega
  · refine ⟨g, cap, rfl, hg, fun j x hx => ?_⟩
    have hj := (List.getElem?_eq_some_iff.1 hx).1
    rw [bC_ hh]
    have e : cur.toList[j]? = (nums .u64 B)[j]? := by rw [← h4, List.getElem?_take, if_pos (by omega)]
    have e2 : cur[j]? = cur.toList[j]? := by simp
    rw [e2, e]
    unfold nums
    rw [List.getElem?_map, hx]
    rfl
theorem index_row (g n c i : Nat) (hi : i < n) (W : World) : (Instr.indexAt 53 (.slice (some ⟨g, 0, none⟩) n c) (.int .i64 (i : Int))).run Tryd.prog W = .ok (.pointer (some ⟨g, i, none⟩)) W := by
  rw [index_u64 _ n c i hi W, addz]
def TkE (w0 : World) (g1 gq t1 is : Nat) (Z C : Array Value) (B : List Int) (k : Nat → Bool) (w : World) : Prop :=
  w.heap[g1]? = some (.cells (bif k is then C else Z) t1 (0, 0)) ∧ (∀ j x, B[j]? = some x → w.cell? ⟨gq, j, none⟩ = some (.int .u64 x)) ∧ Below w0.heap.size w0 w
theorem Within.mono {F : List (Nat × Nat)} {n m : Nat} (h : Within F n) (hm : n ≤ m) : Within F m := fun f hf => ⟨(h f hf).1, (h f hf).2.1, Nat.le_trans (h f hf).2.2 hm⟩
set_option maxHeartbeats 8000000 in
set_option maxRecDepth 100000 in
theorem segment_short (A : Option Addr) (m c : Nat) (w : World) (hm : m < 56) : Calls Tryd.prog 20 #[.slice A m c] w fun e w' => e = .returned (.tuple #[.agg #[.int .u32 0, .int .u32 0, .int .u64 0, .int .u64 0, .int .u64 0, .int .u64 0, .int .u64 0], .int .i64 30]) ∧ Below w.heap.size w w' := by
  have hu := Tryd.underlying30
  have hlt : decide ((m : Int) < 56) = true := decide_eq_true (by omega)
  go_enter Tryd.func20, Tryd.ntmps20
  go_wp2_with fail
  have h0 := World.alloc_heap_new w (.cells #[.int .u32 0, .int .u32 0, .int .u64 0, .int .u64 0, .int .u64 0, .int .u64 0, .int .u64 0] 30)
  refine bodyPost_ret (results_ctB rfl _ _ w.heap.size 30 #[.int .u32 0, .int .u32 0, .int .u64 0, .int .u64 0, .int .u64 0, .int .u64 0, .int .u64 0] (0, 0) _ rfl _ rfl h0 hu rfl (by kernel_rfl)) rfl ⟨rfl, bX_ (Below.refl _ _) _⟩
set_option maxHeartbeats 8000000 in
set_option maxRecDepth 100000 in
theorem segment_long (ad : Addr) (c : Nat) (xs : List Int) (f0 f1 f2 f3 f4 f5 f6 : Int) (hf : segF.map (fieldN xs) = [f0, f1, f2, f3, f4, f5, f6]) (w : World) (hT : Tab w) (hx : Row8 w ad xs) (hb : BB xs) (hc : xs.length ≤ c) (hm : 56 ≤ xs.length) (hm2 : xs.length ≤ 1000000) :
    Calls Tryd.prog 20 #[.slice (some ad) xs.length c] w fun e w' => e = .returned (.tuple #[.agg #[.int .u32 (IntKind.u32.wrap f0), .int .u32 (IntKind.u32.wrap f1), .int .u64 f2, .int .u64 f3, .int .u64 f4, .int .u64 f5, .int .u64 f6], .int .i64 0]) ∧ Below w.heap.size w w' := by
  have hu := Tryd.underlying30
  have HT := Aside0.mk hT
  have HX := Aside0.mk hx
  have HB := Aside0.mk hb
  have HC := Aside0.mk hc
  have HM := Aside0.mk (And.intro hm hm2)
  have HF := Aside0.mk hf
  have hab : ad.block < w.heap.size := by have := World.block_lt_of_cell? w _ (hx 0 (by omega)); rwa [block_add] at this
  have HAB := Aside0.mk hab
  have hlt : decide ((xs.length : Int) < 56) = false := decide_eq_false (by omega)
  clear hT hx hb hc hm2 hf hab
  go_enter Tryd.func20, Tryd.ntmps20
  go_upto_region 3 with (fail)
  have hb1 : Below w.heap.size w (w.alloc (.cells #[.int .u32 0, .int .u32 0, .int .u64 0, .int .u64 0, .int .u64 0, .int .u64 0, .int .u64 0] 30)) := bX_ (Below.refl _ _) _
  have h1 := World.alloc_heap_new w (.cells #[.int .u32 0, .int .u32 0, .int .u64 0, .int .u64 0, .int .u64 0, .int .u64 0, .int .u64 0] 30)
  have hs1 : (w.alloc (.cells #[.int .u32 0, .int .u32 0, .int .u64 0, .int .u64 0, .int .u64 0, .int .u64 0, .int .u64 0] 30)).heap.size = w.heap.size + 1 := World.size_alloc _ _
  generalize w.alloc (.cells #[.int .u32 0, .int .u32 0, .int .u64 0, .int .u64 0, .int .u64 0, .int .u64 0, .int .u64 0] 30) = w1 at *
  have H1 := Aside0.mk h1
  have HB1 := Aside0.mk hb1
  have HS1 := Aside0.mk hs1
  clear h1 hb1 hs1 hlt hm
  go_upto_region 4 with (go_at_call 25; refine (taken_calls ad c xs 2 segF _ (FTab.below HT.out.2.2.1 HB1.out) (fun j hj => pw_cell_below HB1.out (HX.out j hj)) HB.out HC.out (segW.mono HM.out.1) (by decide) HM.out.2 (by have := HS1.out; have := HT.out.2.2.2.2; omega) (by have := HS1.out; have := HAB.out; omega)).mono ?_; rintro e w2 ⟨v, rfl, ho, hb2⟩)
  rw [HF.out] at ho
  obtain ⟨gq, cq, rfl, hgq, hcq⟩ := own_cells64 ho (by decide) rfl
  obtain ⟨g1, hg1⟩ : ∃ g1, w.heap.size = g1 := ⟨_, rfl⟩
  have HS := Aside0.mk (show w2.heap[g1]? = some (.cells #[.int .u32 0, .int .u32 0, .int .u64 0, .int .u64 0, .int .u64 0, .int .u64 0, .int .u64 0] 30 (0, 0)) ∧ (∀ j x, [f0, f1, f2, f3, f4, f5, f6][j]? = some x → w2.cell? ⟨gq, j, none⟩ = some (.int .u64 x)) ∧ Below w.heap.size w w2 from ⟨by rw [← hg1]; exact heap_below hb2 H1.out, hcq, below_step HB1.out hb2⟩)
  have HGQ := Aside0.mk (show g1 < gq by have := HS1.out; omega)
  have HG1 := Aside0.mk (show w.heap.size ≤ g1 by omega)
  (try rw [hg1])
  clear ho hgq hcq hb2 H1 HB1 HS1 hg1
  refine RS.wp_events (by kernel_rfl) [(12, .slice (some ⟨gq, 0, none⟩) 7 cq), (13, .pointer (some ⟨gq, 0, none⟩)), (14, .int .u64 f0), (15, .int .u32 (IntKind.u32.wrap f0)), (16, .slice (some ⟨gq, 0, none⟩) 7 cq), (17, .pointer (some ⟨gq, 1, none⟩)), (18, .int .u64 f1), (19, .int .u32 (IntKind.u32.wrap f1)), (20, .slice (some ⟨gq, 0, none⟩) 7 cq), (21, .pointer (some ⟨gq, 2, none⟩)), (22, .int .u64 f2), (23, .slice (some ⟨gq, 0, none⟩) 7 cq), (24, .pointer (some ⟨gq, 3, none⟩)), (25, .int .u64 f3), (26, .slice (some ⟨gq, 0, none⟩) 7 cq), (27, .pointer (some ⟨gq, 4, none⟩)), (28, .int .u64 f4), (29, .slice (some ⟨gq, 0, none⟩) 7 cq), (30, .pointer (some ⟨gq, 5, none⟩)), (31, .int .u64 f5), (32, .slice (some ⟨gq, 0, none⟩) 7 cq), (33, .pointer (some ⟨gq, 6, none⟩)), (34, .int .u64 f6), (35, .agg #[.int .u32 (IntKind.u32.wrap f0), .int .u32 (IntKind.u32.wrap f1), .int .u64 f2, .int .u64 f3, .int .u64 f4, .int .u64 f5, .int .u64 f6]), (3, .int .i64 0)] (TkE w g1 gq 30 24 #[.int .u32 0, .int .u32 0, .int .u64 0, .int .u64 0, .int .u64 0, .int .u64 0, .int .u64 0] #[.int .u32 (IntKind.u32.wrap f0), .int .u32 (IntKind.u32.wrap f1), .int .u64 f2, .int .u64 f3, .int .u64 f4, .int .u64 f5, .int .u64 f6] [f0, f1, f2, f3, f4, f5, f6]) (by kernel_rfl) (by kernel_rfl) (fun k hk => ?_) ?_ ?_
  · exact ⟨by rw [hk 24 (by decide)]; exact HS.out.1, HS.out.2.1, bY_ HS.out.2.2⟩
  · exact ⟨RS.StepE.pure 12 (by kernel_rfl) rfl (fun w => by kernel_rfl) (fun f w h => h),
      RS.StepE.load 13 (.pointer (some ⟨gq, 0, none⟩)) (by kernel_rfl) (by kernel_rfl) rfl (fun f w h => h) (fun k w p1 p2 h => run_indexAddr rfl (by kernel_rfl) (by kernel_rfl) (index_row gq 7 cq 0 (by decide) w)),
      RS.StepE.load 14 (.int .u64 f0) (by kernel_rfl) (by kernel_rfl) rfl (fun f w h => h) (fun k w p1 p2 h => run_load rfl (by kernel_rfl) (load_cell (k := .u64) Tryd.underlying23 (h.2.1 0 f0 rfl))),
      RS.StepE.pure 15 (by kernel_rfl) rfl (fun w => by kernel_rfl) (fun f w h => h),
      RS.StepE.pure 16 (by kernel_rfl) rfl (fun w => by kernel_rfl) (fun f w h => h),
      RS.StepE.load 17 (.pointer (some ⟨gq, 1, none⟩)) (by kernel_rfl) (by kernel_rfl) rfl (fun f w h => h) (fun k w p1 p2 h => run_indexAddr rfl (by kernel_rfl) (by kernel_rfl) (index_row gq 7 cq 1 (by decide) w)),
      RS.StepE.load 18 (.int .u64 f1) (by kernel_rfl) (by kernel_rfl) rfl (fun f w h => h) (fun k w p1 p2 h => run_load rfl (by kernel_rfl) (load_cell (k := .u64) Tryd.underlying23 (h.2.1 1 f1 rfl))),
      RS.StepE.pure 19 (by kernel_rfl) rfl (fun w => by kernel_rfl) (fun f w h => h),
      RS.StepE.pure 20 (by kernel_rfl) rfl (fun w => by kernel_rfl) (fun f w h => h),
      RS.StepE.load 21 (.pointer (some ⟨gq, 2, none⟩)) (by kernel_rfl) (by kernel_rfl) rfl (fun f w h => h) (fun k w p1 p2 h => run_indexAddr rfl (by kernel_rfl) (by kernel_rfl) (index_row gq 7 cq 2 (by decide) w)),
      RS.StepE.load 22 (.int .u64 f2) (by kernel_rfl) (by kernel_rfl) rfl (fun f w h => h) (fun k w p1 p2 h => run_load rfl (by kernel_rfl) (load_cell (k := .u64) Tryd.underlying23 (h.2.1 2 f2 rfl))),
      RS.StepE.pure 23 (by kernel_rfl) rfl (fun w => by kernel_rfl) (fun f w h => h),
      RS.StepE.load 24 (.pointer (some ⟨gq, 3, none⟩)) (by kernel_rfl) (by kernel_rfl) rfl (fun f w h => h) (fun k w p1 p2 h => run_indexAddr rfl (by kernel_rfl) (by kernel_rfl) (index_row gq 7 cq 3 (by decide) w)),
      RS.StepE.load 25 (.int .u64 f3) (by kernel_rfl) (by kernel_rfl) rfl (fun f w h => h) (fun k w p1 p2 h => run_load rfl (by kernel_rfl) (load_cell (k := .u64) Tryd.underlying23 (h.2.1 3 f3 rfl))),
      RS.StepE.pure 26 (by kernel_rfl) rfl (fun w => by kernel_rfl) (fun f w h => h),
      RS.StepE.load 27 (.pointer (some ⟨gq, 4, none⟩)) (by kernel_rfl) (by kernel_rfl) rfl (fun f w h => h) (fun k w p1 p2 h => run_indexAddr rfl (by kernel_rfl) (by kernel_rfl) (index_row gq 7 cq 4 (by decide) w)),
      RS.StepE.load 28 (.int .u64 f4) (by kernel_rfl) (by kernel_rfl) rfl (fun f w h => h) (fun k w p1 p2 h => run_load rfl (by kernel_rfl) (load_cell (k := .u64) Tryd.underlying23 (h.2.1 4 f4 rfl))),
      RS.StepE.pure 29 (by kernel_rfl) rfl (fun w => by kernel_rfl) (fun f w h => h),
      RS.StepE.load 30 (.pointer (some ⟨gq, 5, none⟩)) (by kernel_rfl) (by kernel_rfl) rfl (fun f w h => h) (fun k w p1 p2 h => run_indexAddr rfl (by kernel_rfl) (by kernel_rfl) (index_row gq 7 cq 5 (by decide) w)),
      RS.StepE.load 31 (.int .u64 f5) (by kernel_rfl) (by kernel_rfl) rfl (fun f w h => h) (fun k w p1 p2 h => run_load rfl (by kernel_rfl) (load_cell (k := .u64) Tryd.underlying23 (h.2.1 5 f5 rfl))),
      RS.StepE.pure 32 (by kernel_rfl) rfl (fun w => by kernel_rfl) (fun f w h => h),
      RS.StepE.load 33 (.pointer (some ⟨gq, 6, none⟩)) (by kernel_rfl) (by kernel_rfl) rfl (fun f w h => h) (fun k w p1 p2 h => run_indexAddr rfl (by kernel_rfl) (by kernel_rfl) (index_row gq 7 cq 6 (by decide) w)),
      RS.StepE.load 34 (.int .u64 f6) (by kernel_rfl) (by kernel_rfl) rfl (fun f w h => h) (fun k w p1 p2 h => run_load rfl (by kernel_rfl) (load_cell (k := .u64) Tryd.underlying23 (h.2.1 6 f6 rfl))),
      RS.StepE.pure 35 (by kernel_rfl) rfl (fun w => by kernel_rfl) (fun f w h => h),
      RS.StepE.event undef (by intro d hd; cases hd) (by kernel_rfl) (fun k w h0 p1 p2 h => by
        have h0 : k 24 = false := h0
        obtain ⟨h1, h2, h3⟩ := h
        rw [h0] at h1
        refine ⟨_, .inr ⟨run_store_row (cells := #[.int .u32 (IntKind.u32.wrap f0), .int .u32 (IntKind.u32.wrap f1), .int .u64 f2, .int .u64 f3, .int .u64 f4, .int .u64 f5, .int .u64 f6]) (old := #[.int .u32 0, .int .u32 0, .int .u64 0, .int .u64 0, .int .u64 0, .int .u64 0, .int .u64 0]) rfl (by kernel_rfl) (by kernel_rfl) h1 (by kernel_rfl) rfl (by simp [Value.oneCell']), rfl⟩, setRow_heap w g1 _ _ 30 (0, 0) h1, fun j x hx => (cell_setRow _ (by have := HGQ.out; show gq ≠ g1; omega)).trans (h2 j x hx), below_setRow h3 HG1.out _⟩),
      RS.StepE.pure 3 (by kernel_rfl) rfl (fun w => by kernel_rfl) (fun f w h => h), trivial⟩
  rintro k w6 hk ⟨h1, h2, h3⟩
  rw [hk] at h1
  (try simp only [RS.sets, List.setIfInBounds_toArray, List.set_cons_zero, List.set_cons_succ])
  go_wp2_with fail
  refine bodyPost_ret (results_ctB rfl _ _ g1 30 #[.int .u32 (IntKind.u32.wrap f0), .int .u32 (IntKind.u32.wrap f1), .int .u64 f2, .int .u64 f3, .int .u64 f4, .int .u64 f5, .int .u64 f6] (0, 0) _ rfl _ rfl h1 hu rfl (by kernel_rfl)) rfl ⟨rfl, h3⟩
set_option maxHeartbeats 8000000 in
set_option maxRecDepth 100000 in
theorem section_short (A : Option Addr) (m c : Nat) (w : World) (hm : m < 64) : Calls Tryd.prog 22 #[.slice A m c] w fun e w' => e = .returned (.tuple #[.agg #[.int .u32 0, .int .u64 0, .int .u64 0, .int .u32 0, .int .u64 0], .int .i64 30]) ∧ Below w.heap.size w w' := by
  have hu := Tryd.underlying32
  have hlt : decide ((m : Int) < 64) = true := decide_eq_true (by omega)
  go_enter Tryd.func22, Tryd.ntmps22
  go_wp2_with fail
  have h0 := World.alloc_heap_new w (.cells #[.int .u32 0, .int .u64 0, .int .u64 0, .int .u32 0, .int .u64 0] 32)
  refine bodyPost_ret (results_ctB rfl _ _ w.heap.size 32 #[.int .u32 0, .int .u64 0, .int .u64 0, .int .u32 0, .int .u64 0] (0, 0) _ rfl _ rfl h0 hu rfl (by kernel_rfl)) rfl ⟨rfl, bX_ (Below.refl _ _) _⟩
set_option maxHeartbeats 8000000 in
set_option maxRecDepth 100000 in
theorem section_long (ad : Addr) (c : Nat) (xs : List Int) (f0 f1 f2 f3 f4 : Int) (hf : secF.map (fieldN xs) = [f0, f1, f2, f3, f4]) (w : World) (hT : Tab w) (hx : Row8 w ad xs) (hb : BB xs) (hc : xs.length ≤ c) (hm : 64 ≤ xs.length) (hm2 : xs.length ≤ 1000000) :
    Calls Tryd.prog 22 #[.slice (some ad) xs.length c] w fun e w' => e = .returned (.tuple #[.agg #[.int .u32 (IntKind.u32.wrap f0), .int .u64 f1, .int .u64 f2, .int .u32 (IntKind.u32.wrap f3), .int .u64 f4], .int .i64 0]) ∧ Below w.heap.size w w' := by
  have hu := Tryd.underlying32
  have HT := Aside0.mk hT
  have HX := Aside0.mk hx
  have HB := Aside0.mk hb
  have HC := Aside0.mk hc
  have HM := Aside0.mk (And.intro hm hm2)
  have HF := Aside0.mk hf
  have hab : ad.block < w.heap.size := by have := World.block_lt_of_cell? w _ (hx 0 (by omega)); rwa [block_add] at this
  have HAB := Aside0.mk hab
  have hlt : decide ((xs.length : Int) < 64) = false := decide_eq_false (by omega)
  clear hT hx hb hc hm2 hf hab
  go_enter Tryd.func22, Tryd.ntmps22
  go_upto_region 3 with (fail)
  have hb1 : Below w.heap.size w (w.alloc (.cells #[.int .u32 0, .int .u64 0, .int .u64 0, .int .u32 0, .int .u64 0] 32)) := bX_ (Below.refl _ _) _
  have h1 := World.alloc_heap_new w (.cells #[.int .u32 0, .int .u64 0, .int .u64 0, .int .u32 0, .int .u64 0] 32)
  have hs1 : (w.alloc (.cells #[.int .u32 0, .int .u64 0, .int .u64 0, .int .u32 0, .int .u64 0] 32)).heap.size = w.heap.size + 1 := World.size_alloc _ _
  generalize w.alloc (.cells #[.int .u32 0, .int .u64 0, .int .u64 0, .int .u32 0, .int .u64 0] 32) = w1 at *
  have H1 := Aside0.mk h1
  have HB1 := Aside0.mk hb1
  have HS1 := Aside0.mk hs1
  clear h1 hb1 hs1 hlt hm
  go_upto_region 4 with (go_at_call 25; refine (taken_calls ad c xs 3 secF _ (FTab.below HT.out.2.2.2.1 HB1.out) (fun j hj => pw_cell_below HB1.out (HX.out j hj)) HB.out HC.out (secW.mono HM.out.1) (by decide) HM.out.2 (by have := HS1.out; have := HT.out.2.2.2.2; omega) (by have := HS1.out; have := HAB.out; omega)).mono ?_; rintro e w2 ⟨v, rfl, ho, hb2⟩)
  rw [HF.out] at ho
  obtain ⟨gq, cq, rfl, hgq, hcq⟩ := own_cells64 ho (by decide) rfl
  obtain ⟨g1, hg1⟩ : ∃ g1, w.heap.size = g1 := ⟨_, rfl⟩
  have HS := Aside0.mk (show w2.heap[g1]? = some (.cells #[.int .u32 0, .int .u64 0, .int .u64 0, .int .u32 0, .int .u64 0] 32 (0, 0)) ∧ (∀ j x, [f0, f1, f2, f3, f4][j]? = some x → w2.cell? ⟨gq, j, none⟩ = some (.int .u64 x)) ∧ Below w.heap.size w w2 from ⟨by rw [← hg1]; exact heap_below hb2 H1.out, hcq, below_step HB1.out hb2⟩)
  have HGQ := Aside0.mk (show g1 < gq by have := HS1.out; omega)
  have HG1 := Aside0.mk (show w.heap.size ≤ g1 by omega)
  (try rw [hg1])
  clear ho hgq hcq hb2 H1 HB1 HS1 hg1
  refine RS.wp_events (by kernel_rfl) [(12, .slice (some ⟨gq, 0, none⟩) 5 cq), (13, .pointer (some ⟨gq, 0, none⟩)), (14, .int .u64 f0), (15, .int .u32 (IntKind.u32.wrap f0)), (16, .slice (some ⟨gq, 0, none⟩) 5 cq), (17, .pointer (some ⟨gq, 1, none⟩)), (18, .int .u64 f1), (19, .slice (some ⟨gq, 0, none⟩) 5 cq), (20, .pointer (some ⟨gq, 2, none⟩)), (21, .int .u64 f2), (22, .slice (some ⟨gq, 0, none⟩) 5 cq), (23, .pointer (some ⟨gq, 3, none⟩)), (24, .int .u64 f3), (25, .int .u32 (IntKind.u32.wrap f3)), (26, .slice (some ⟨gq, 0, none⟩) 5 cq), (27, .pointer (some ⟨gq, 4, none⟩)), (28, .int .u64 f4), (29, .agg #[.int .u32 (IntKind.u32.wrap f0), .int .u64 f1, .int .u64 f2, .int .u32 (IntKind.u32.wrap f3), .int .u64 f4]), (3, .int .i64 0)] (TkE w g1 gq 32 18 #[.int .u32 0, .int .u64 0, .int .u64 0, .int .u32 0, .int .u64 0] #[.int .u32 (IntKind.u32.wrap f0), .int .u64 f1, .int .u64 f2, .int .u32 (IntKind.u32.wrap f3), .int .u64 f4] [f0, f1, f2, f3, f4]) (by kernel_rfl) (by kernel_rfl) (fun k hk => ?_) ?_ ?_
  · exact ⟨by rw [hk 18 (by decide)]; exact HS.out.1, HS.out.2.1, bY_ HS.out.2.2⟩
  · exact ⟨RS.StepE.pure 12 (by kernel_rfl) rfl (fun w => by kernel_rfl) (fun f w h => h),
      RS.StepE.load 13 (.pointer (some ⟨gq, 0, none⟩)) (by kernel_rfl) (by kernel_rfl) rfl (fun f w h => h) (fun k w p1 p2 h => run_indexAddr rfl (by kernel_rfl) (by kernel_rfl) (index_row gq 5 cq 0 (by decide) w)),
      RS.StepE.load 14 (.int .u64 f0) (by kernel_rfl) (by kernel_rfl) rfl (fun f w h => h) (fun k w p1 p2 h => run_load rfl (by kernel_rfl) (load_cell (k := .u64) Tryd.underlying23 (h.2.1 0 f0 rfl))),
      RS.StepE.pure 15 (by kernel_rfl) rfl (fun w => by kernel_rfl) (fun f w h => h),
      RS.StepE.pure 16 (by kernel_rfl) rfl (fun w => by kernel_rfl) (fun f w h => h),
      RS.StepE.load 17 (.pointer (some ⟨gq, 1, none⟩)) (by kernel_rfl) (by kernel_rfl) rfl (fun f w h => h) (fun k w p1 p2 h => run_indexAddr rfl (by kernel_rfl) (by kernel_rfl) (index_row gq 5 cq 1 (by decide) w)),
      RS.StepE.load 18 (.int .u64 f1) (by kernel_rfl) (by kernel_rfl) rfl (fun f w h => h) (fun k w p1 p2 h => run_load rfl (by kernel_rfl) (load_cell (k := .u64) Tryd.underlying23 (h.2.1 1 f1 rfl))),
      RS.StepE.pure 19 (by kernel_rfl) rfl (fun w => by kernel_rfl) (fun f w h => h),
      RS.StepE.load 20 (.pointer (some ⟨gq, 2, none⟩)) (by kernel_rfl) (by kernel_rfl) rfl (fun f w h => h) (fun k w p1 p2 h => run_indexAddr rfl (by kernel_rfl) (by kernel_rfl) (index_row gq 5 cq 2 (by decide) w)),
      RS.StepE.load 21 (.int .u64 f2) (by kernel_rfl) (by kernel_rfl) rfl (fun f w h => h) (fun k w p1 p2 h => run_load rfl (by kernel_rfl) (load_cell (k := .u64) Tryd.underlying23 (h.2.1 2 f2 rfl))),
      RS.StepE.pure 22 (by kernel_rfl) rfl (fun w => by kernel_rfl) (fun f w h => h),
      RS.StepE.load 23 (.pointer (some ⟨gq, 3, none⟩)) (by kernel_rfl) (by kernel_rfl) rfl (fun f w h => h) (fun k w p1 p2 h => run_indexAddr rfl (by kernel_rfl) (by kernel_rfl) (index_row gq 5 cq 3 (by decide) w)),
      RS.StepE.load 24 (.int .u64 f3) (by kernel_rfl) (by kernel_rfl) rfl (fun f w h => h) (fun k w p1 p2 h => run_load rfl (by kernel_rfl) (load_cell (k := .u64) Tryd.underlying23 (h.2.1 3 f3 rfl))),
      RS.StepE.pure 25 (by kernel_rfl) rfl (fun w => by kernel_rfl) (fun f w h => h),
      RS.StepE.pure 26 (by kernel_rfl) rfl (fun w => by kernel_rfl) (fun f w h => h),
      RS.StepE.load 27 (.pointer (some ⟨gq, 4, none⟩)) (by kernel_rfl) (by kernel_rfl) rfl (fun f w h => h) (fun k w p1 p2 h => run_indexAddr rfl (by kernel_rfl) (by kernel_rfl) (index_row gq 5 cq 4 (by decide) w)),
      RS.StepE.load 28 (.int .u64 f4) (by kernel_rfl) (by kernel_rfl) rfl (fun f w h => h) (fun k w p1 p2 h => run_load rfl (by kernel_rfl) (load_cell (k := .u64) Tryd.underlying23 (h.2.1 4 f4 rfl))),
      RS.StepE.pure 29 (by kernel_rfl) rfl (fun w => by kernel_rfl) (fun f w h => h),
      RS.StepE.event undef (by intro d hd; cases hd) (by kernel_rfl) (fun k w h0 p1 p2 h => by
        have h0 : k 18 = false := h0
        obtain ⟨h1, h2, h3⟩ := h
        rw [h0] at h1
        refine ⟨_, .inr ⟨run_store_row (cells := #[.int .u32 (IntKind.u32.wrap f0), .int .u64 f1, .int .u64 f2, .int .u32 (IntKind.u32.wrap f3), .int .u64 f4]) (old := #[.int .u32 0, .int .u64 0, .int .u64 0, .int .u32 0, .int .u64 0]) rfl (by kernel_rfl) (by kernel_rfl) h1 (by kernel_rfl) rfl (by simp [Value.oneCell']), rfl⟩, setRow_heap w g1 _ _ 32 (0, 0) h1, fun j x hx => (cell_setRow _ (by have := HGQ.out; show gq ≠ g1; omega)).trans (h2 j x hx), below_setRow h3 HG1.out _⟩),
      RS.StepE.pure 3 (by kernel_rfl) rfl (fun w => by kernel_rfl) (fun f w h => h), trivial⟩
  rintro k w6 hk ⟨h1, h2, h3⟩
  rw [hk] at h1
  (try simp only [RS.sets, List.setIfInBounds_toArray, List.set_cons_zero, List.set_cons_succ])
  go_wp2_with fail
  refine bodyPost_ret (results_ctB rfl _ _ g1 32 #[.int .u32 (IntKind.u32.wrap f0), .int .u64 f1, .int .u64 f2, .int .u32 (IntKind.u32.wrap f3), .int .u64 f4] (0, 0) _ rfl _ rfl h1 hu rfl (by kernel_rfl)) rfl ⟨rfl, h3⟩
end Go.Proofs.YtopldeeojehklaaDoor.B
