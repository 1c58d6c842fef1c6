/- wakes: what the document says of no sections, of two symbols. What 'great' tells. NamesErrors walked. -/
import Derived.Test.YtgdhciilobnelaaZf15
import Derived.Test.YtgdhciilobnelaaZf5
namespace Go.Proofs.Ytgdhciilobnelaa.B
open Go.RowKit Go.Lib Go.Proofs.YtgdhciilobnelaaW.PrintWords Go.Proofs.YtgdhciilobnelaaW.PrintLast Go.Proofs.YtgdhciilobnelaaW.PrintMore Go.RF
set_option linter.unusedVariables false
set_option linter.unusedSimpArgs false
attribute [local go_sem] max2_int min2_int max_two min_two
def ex1 : S41 := ⟨⟨#[120]⟩, 1, 1, 0, 0⟩
def ex2 : S41 := ⟨⟨#[102]⟩, 18, 1, 77, 5⟩
theorem ex_ok : ∀ x ∈ [ex1, ex2], S41ok x := by
  intro x hx
  simp only [List.mem_cons, List.not_mem_nil, or_false] at hx
  rcases hx with rfl | rfl <;> exact ⟨by decide, by decide, by decide, by unfold Rg; decide, by unfold Rg; decide⟩
theorem ex_nz : ∀ x ∈ [ex1, ex2], NoZ x.f0 := by
  intro x hx
  simp only [List.mem_cons, List.not_mem_nil, or_false] at hx
  rcases hx with rfl | rfl <;> (intro b hb; simp [ex1, ex2] at hb; subst hb; decide)
def exS1 : S38 := ⟨⟨#[120]⟩, 0, 0, false⟩
def exS2 : S38 := ⟨⟨#[102]⟩, 77, 5, true⟩
theorem ex_read : readN (madeB 10 [ex1, ex2]) (secsM 10 [ex1, ex2]) = ([exS1, exS2], 0) := by
  have h := readN_made (a := 10) (l := [ex1, ex2]) [] ex_ok ex_nz (by decide)
  rw [List.append_nil] at h
  rw [h]
  rfl
theorem ex_funs : funs [exS1, exS2] = [exS2] := by rfl
theorem BB_made (a : Nat) {l : List S41} (hok : ∀ x ∈ l, S41ok x) : BB (madeB a l) := by
  have hb : ∀ (x : Int) (i : Nat), 0 ≤ byteN x i ∧ byteN x i < 256 := fun x i => by unfold byteN; exact ⟨Int.emod_nonneg _ (by decide), Int.emod_lt_of_pos _ (by decide)⟩
  have hs : BB (strP l) := by
    intro x hx
    unfold strP at hx
    rcases List.mem_cons.1 hx with rfl | hx
    · decide
    · obtain ⟨y, _, hy⟩ := List.mem_flatMap.1 hx
      rcases List.mem_append.1 hy with hy | hy
      · unfold strB at hy
        obtain ⟨b, _, rfl⟩ := List.mem_map.1 hy
        have := b.toNat_lt
        omega
      · rw [List.mem_singleton.1 hy]; decide
  have ht : BB (tabP l l.length) := by
    intro x hx
    unfold tabP at hx
    rcases List.mem_append.1 hx with hx | hx
    · rw [List.eq_of_mem_replicate hx]; decide
    · obtain ⟨j, hj, hy⟩ := List.mem_flatMap.1 hx
      have hj := List.mem_range.1 hj
      have hm : l.getD j z41 ∈ l := by rw [List.getD_eq_getElem?_getD, List.getElem?_eq_getElem hj]; exact List.getElem_mem hj
      have h1 := (hok _ hm).2.1
      unfold entB at hy
      simp only [b4, b2, b8, List.mem_append, List.mem_cons, List.not_mem_nil, or_false] at hy
      rcases hy with (rfl | rfl | rfl | rfl) | (rfl | rfl) | (rfl | rfl) | (rfl | rfl | rfl | rfl | rfl | rfl | rfl | rfl) | (rfl | rfl | rfl | rfl | rfl | rfl | rfl | rfl) <;> first | exact hb _ _ | exact h1 | decide
  exact BB_append (fun x hx => by rw [List.eq_of_mem_replicate hx]; decide) (BB_append ht hs)
theorem secs_made {a : Nat} {l : List S41} (ha : a ≤ 200) (h60 : l.length ≤ 60) (hok : ∀ x ∈ l, S41ok x) : ∀ s ∈ secsM a l, Sec45 s := by
  have h1 := strP_le hok
  intro s hs
  unfold secsM at hs
  simp only [List.mem_cons, List.not_mem_nil, or_false] at hs
  unfold Sec45 Rg
  rcases hs with rfl | rfl | rfl
  · decide
  · exact ⟨by show (0 : Int) ≤ 2; decide, by show (2 : Int) < 4294967296; decide, ⟨by show (0 : Int) ≤ (a : Int); omega, by show (a : Int) < _; omega⟩, ⟨by show (0 : Int) ≤ ((24 * (l.length + 1) : Nat) : Int); omega, by show ((24 * (l.length + 1) : Nat) : Int) < _; omega⟩, by show (0 : Int) ≤ 2; decide, by show (2 : Int) < 4294967296; decide, by show (0 : Int) ≤ 24; decide, by show (24 : Int) < 18446744073709551616; decide⟩
  · exact ⟨by show (0 : Int) ≤ 3; decide, by show (3 : Int) < 4294967296; decide, ⟨by show (0 : Int) ≤ ((a + 24 * (l.length + 1) : Nat) : Int); omega, by show ((a + 24 * (l.length + 1) : Nat) : Int) < _; omega⟩, ⟨by show (0 : Int) ≤ ((strP l).length : Int); omega, by show ((strP l).length : Int) < _; omega⟩, by show (0 : Int) ≤ 0; decide, by show (0 : Int) < 4294967296; decide, by show (0 : Int) ≤ 0; decide, by show (0 : Int) < 18446744073709551616; decide⟩
set_option maxHeartbeats 8000000 in
set_option maxRecDepth 100000 in
theorem wakes_calls (w0 : World) : Calls Try.prog 8 #[] w0 fun e w' => e = .returned (.bool true) ∧ Below w0.heap.size w0 w' := by
  have hu30 := Aside0.mk Try.underlying30
  go_enter Try.func8, Try.ntmps8
  go_upto_region 0 with (fail)
  refine RS.wp_textE [(0, .bool false)] (fun f w => w0 = w) (by kernel_rfl) (by kernel_rfl) (fun f hf => ?_) ?_ ?_
  · rfl
  · exact ⟨RS.StepE.pure 0 (by kernel_rfl) rfl (fun w => by kernel_rfl) (fun f w h => h), trivial⟩
  rintro f wx hf rfl
  clear hf
  (try simp only [RS.sets, List.setIfInBounds_toArray, List.set_cons_zero, List.set_cons_succ])
  go_upto_region 1 with (fail)
  refine wp_region_lit ?_
  refine RS.t1 12 rfl (by kernel_rfl) (.agg #[.int .u64 0, .int .u64 0, .int .u64 0, .slice none 0 0, .slice none 0 0]) (by kernel_rfl) ?_
  (try simp only [Act.put, List.setIfInBounds_toArray, List.set_cons_zero, List.set_cons_succ])
  refine RS.tC 13 rfl (by kernel_rfl) (show _ = Result.ok (Next.enter 10 #[.slice none 0 0, .agg #[.int .u64 0, .int .u64 0, .int .u64 0, .slice none 0 0, .slice none 0 0]]) _ from by kernel_rfl) ?_
  refine (read_calls none 0 [] 0 0 0 none 0 0 none 0 0 [] w0 (nil_C _ _ _) (Nat.le_refl _) (by decide) (by intro x hx; cases hx) (.inr rfl) (nil_C _ _ _) rfl (by decide) (by intro s hs; cases hs)).mono ?_
  rintro e w1 ⟨v1, rfl, hr⟩
  obtain ⟨A1, c1, rfl, -, -, hb1⟩ := hr.form
  have B1 := Aside0.mk hb1
  clear hr hb1
  refine ⟨_, rfl, ?_⟩
  (try simp only [Act.put, List.setIfInBounds_toArray, List.set_cons_zero, List.set_cons_succ])
  refine RS.t1 11 rfl (by kernel_rfl) (.tuple #[.slice A1 0 c1, .int .i64 0]) (by kernel_rfl) ?_
  (try simp only [Act.put, List.setIfInBounds_toArray, List.set_cons_zero, List.set_cons_succ])
  refine RS.t1 14 rfl (by kernel_rfl) (.slice A1 0 c1) (by kernel_rfl) ?_
  (try simp only [Act.put, List.setIfInBounds_toArray, List.set_cons_zero, List.set_cons_succ])
  refine RS.t1 15 rfl (by kernel_rfl) (.int .i64 0) (by kernel_rfl) ?_
  (try simp only [Act.put, List.setIfInBounds_toArray, List.set_cons_zero, List.set_cons_succ])
  refine RS.t1 1 rfl (by kernel_rfl) (.slice A1 0 c1) (by kernel_rfl) ?_
  (try simp only [Act.put, List.setIfInBounds_toArray, List.set_cons_zero, List.set_cons_succ])
  refine RS.t1 2 rfl (by kernel_rfl) (.int .i64 0) (by kernel_rfl) ?_
  (try simp only [Act.put, List.setIfInBounds_toArray, List.set_cons_zero, List.set_cons_succ])
  go_upto_region 2 with (fail)
  refine wp_region_lit ?_
  refine RS.t1 17 rfl (by kernel_rfl) (.agg #[.string ⟨#[120]⟩, .int .u8 1, .int .u16 1, .int .u64 0, .int .u64 0]) (by kernel_rfl) ?_
  (try simp only [Act.put, List.setIfInBounds_toArray, List.set_cons_zero, List.set_cons_succ])
  refine RS.t1 18 rfl (by kernel_rfl) (.agg #[.string ⟨#[102]⟩, .int .u8 18, .int .u16 1, .int .u64 77, .int .u64 5]) (by kernel_rfl) ?_
  (try simp only [Act.put, List.setIfInBounds_toArray, List.set_cons_zero, List.set_cons_succ])
  obtain ⟨gs, hg_⟩ : ∃ g_, w1.heap.size = g_ := ⟨_, rfl⟩
  refine RS.tE 19 rfl (by kernel_rfl) (v := .slice (some ⟨gs, 0, none⟩) 2 2) ((show _ = Result.ok (.value (.slice (some ⟨w1.heap.size, 0, none⟩) 2 2)) (w1.alloc (.cells #[.string ⟨#[120]⟩, .int .u8 1, .int .u16 1, .int .u64 0, .int .u64 0, .string ⟨#[102]⟩, .int .u8 18, .int .u16 1, .int .u64 77, .int .u64 5] 41 (0, 0))) from by kernel_rfl).trans (by rw [hg_])) ?_
  obtain ⟨w2, hw_⟩ : ∃ w_, w1.alloc (.cells #[.string ⟨#[120]⟩, .int .u8 1, .int .u16 1, .int .u64 0, .int .u64 0, .string ⟨#[102]⟩, .int .u8 18, .int .u16 1, .int .u64 77, .int .u64 5] 41 (0, 0)) = w_ := ⟨_, rfl⟩
  rw [hw_]
  have hb_ : Below w1.heap.size w1 w2 := by rw [← hw_]; exact bX_ (Below.refl _ _) _
  have hn_ : w2.heap[gs]? = some (.cells #[.string ⟨#[120]⟩, .int .u8 1, .int .u16 1, .int .u64 0, .int .u64 0, .string ⟨#[102]⟩, .int .u8 18, .int .u16 1, .int .u64 77, .int .u64 5] 41 (0, 0)) := by rw [← hw_, ← hg_]; exact World.alloc_heap_new w1 _
  have hB2 := Aside0.mk (below_step B1.out hb_)
  have HCl := Aside0.mk (C_of_block k41 (xs := [ex1, ex2]) hn_ (Reps.K_of k41 (base := 0) (ok := fun _ => True) (Reps.c5 (k41_mkM _ _ _ ex1) (Reps.c5 (k41_mkM _ _ _ ex2) (Reps.none _ _)))) (by decide))
  clear hw_ hb_ hn_
  (try simp only [Act.put, List.setIfInBounds_toArray, List.set_cons_zero, List.set_cons_succ])
  refine RS.tC 20 rfl (by kernel_rfl) (show _ = Result.ok (Next.enter 9 #[.int .i64 10, .slice (some ⟨gs, 0, none⟩) 2 2]) _ from by kernel_rfl) ?_
  refine (made_calls 10 (some ⟨gs, 0, none⟩) 2 2 [ex1, ex2] w2 (by decide) HCl.out rfl (by decide) ex_ok).mono ?_
  rintro e w3 ⟨gb, capb, As, c3, rfl, hO, hC, hb3⟩
  have hB3 := Aside0.mk (below_step hB2.out hb3)
  have HO3 := Aside0.mk hO
  have HC3 := Aside0.mk hC
  clear hO hC hb3 HCl
  refine ⟨_, rfl, ?_⟩
  (try simp only [Act.put, List.setIfInBounds_toArray, List.set_cons_zero, List.set_cons_succ])
  refine RS.t1 16 rfl (by kernel_rfl) (.tuple #[.slice (some ⟨gb, 0, none⟩) (madeB 10 [ex1, ex2]).length capb, .agg #[.int .u64 0, .int .u64 0, .int .u64 0, .slice none 0 0, .slice As 3 c3]]) (by kernel_rfl) ?_
  (try simp only [Act.put, List.setIfInBounds_toArray, List.set_cons_zero, List.set_cons_succ])
  refine RS.t1 21 rfl (by kernel_rfl) (.slice (some ⟨gb, 0, none⟩) (madeB 10 [ex1, ex2]).length capb) (by kernel_rfl) ?_
  (try simp only [Act.put, List.setIfInBounds_toArray, List.set_cons_zero, List.set_cons_succ])
  refine RS.t1 22 rfl (by kernel_rfl) (.agg #[.int .u64 0, .int .u64 0, .int .u64 0, .slice none 0 0, .slice As 3 c3]) (by kernel_rfl) ?_
  (try simp only [Act.put, List.setIfInBounds_toArray, List.set_cons_zero, List.set_cons_succ])
  obtain ⟨g4, hg_⟩ : ∃ g_, w3.heap.size = g_ := ⟨_, rfl⟩
  refine RS.tE 4 rfl (by kernel_rfl) (v := .pointer (some ⟨g4, 0, none⟩)) ((show _ = Result.ok (.value (.pointer (some ⟨w3.heap.size, 0, none⟩))) (w3.alloc (.cells #[.int .u64 0, .int .u64 0, .int .u64 0, .slice none 0 0, .slice none 0 0] 30 (0, 0))) from by kernel_rfl).trans (by rw [hg_])) ?_
  obtain ⟨w4, hw_⟩ : ∃ w_, w3.alloc (.cells #[.int .u64 0, .int .u64 0, .int .u64 0, .slice none 0 0, .slice none 0 0] 30 (0, 0)) = w_ := ⟨_, rfl⟩
  rw [hw_]
  have hb_ : Below w3.heap.size w3 w4 := by rw [← hw_]; exact bX_ (Below.refl _ _) _
  have hn_ : w4.heap[g4]? = some (.cells #[.int .u64 0, .int .u64 0, .int .u64 0, .slice none 0 0, .slice none 0 0] 30 (0, 0)) := by rw [← hw_, ← hg_]; exact World.alloc_heap_new w3 _
  have hB4 := Aside0.mk (below_step hB3.out hb_)
  have HO4 := Aside0.mk (HO3.out.met hb_)
  have HC4 := Aside0.mk (Kd.C_below HC3.out hb_)
  have H34 := Aside0.mk hb_
  have N4 := Aside0.mk hn_
  have HG4 := Aside0.mk hg_
  clear hw_ hb_ hn_
  (try simp only [Act.put, List.setIfInBounds_toArray, List.set_cons_zero, List.set_cons_succ])
  refine RS.t1 3 rfl (by kernel_rfl) (.slice (some ⟨gb, 0, none⟩) (madeB 10 [ex1, ex2]).length capb) (by kernel_rfl) ?_
  (try simp only [Act.put, List.setIfInBounds_toArray, List.set_cons_zero, List.set_cons_succ])
  refine RS.tS rfl (by kernel_rfl) (run_store_row (g := g4) (cells := #[.int .u64 0, .int .u64 0, .int .u64 0, .slice none 0 0, .slice As 3 c3]) rfl (by kernel_rfl) (by kernel_rfl) N4.out (by kernel_rfl) rfl (by simp [Value.oneCell'])) ?_
  obtain ⟨w5, hw_⟩ : ∃ w_, w4.setRow g4 #[.int .u64 0, .int .u64 0, .int .u64 0, .slice none 0 0, .slice As 3 c3] = w_ := ⟨_, rfl⟩
  rw [hw_]
  have hb_ : Below w3.heap.size w3 w5 := by rw [← hw_]; exact below_setRow H34.out (by rw [HG4.out]; exact Nat.le_refl _) _
  have hn_ : w5.heap[g4]? = some (.cells #[.int .u64 0, .int .u64 0, .int .u64 0, .slice none 0 0, .slice As 3 c3] 30 (0, 0)) := by rw [← hw_]; exact setRow_heap w4 g4 _ _ 30 (0, 0) N4.out
  have hB5 := Aside0.mk (below_step hB3.out hb_)
  have HO5 := Aside0.mk (HO3.out.met hb_)
  have HC5 := Aside0.mk (Kd.C_below HC3.out hb_)
  have N5 := Aside0.mk hn_
  clear hw_ hb_ hn_
  clear HO3 HC3 HO4 HC4 H34 N4 HG4
  go_upto_region 3 with (fail)
  refine wp_region_lit ?_
  refine RS.t1 24 rfl (by kernel_rfl) (.slice (some ⟨gb, 0, none⟩) (madeB 10 [ex1, ex2]).length capb) (by kernel_rfl) ?_
  (try simp only [Act.put, List.setIfInBounds_toArray, List.set_cons_zero, List.set_cons_succ])
  refine RS.t1 25 rfl (by kernel_rfl) (.agg #[.int .u64 0, .int .u64 0, .int .u64 0, .slice none 0 0, .slice As 3 c3]) (load_row (g := g4) N5.out hu30.out rfl (by kernel_rfl) rfl (by kernel_rfl)) ?_
  (try simp only [Act.put, List.setIfInBounds_toArray, List.set_cons_zero, List.set_cons_succ])
  refine RS.tC 26 rfl (by kernel_rfl) (show _ = Result.ok (Next.enter 10 #[.slice (some ⟨gb, 0, none⟩) (madeB 10 [ex1, ex2]).length capb, .agg #[.int .u64 0, .int .u64 0, .int .u64 0, .slice none 0 0, .slice As 3 c3]]) _ from by kernel_rfl) ?_
  refine (read_calls (some ⟨gb, 0, none⟩) capb (madeB 10 [ex1, ex2]) 0 0 0 none 0 0 As c3 3 (secsM 10 [ex1, ex2]) w5 HO5.out.C HO5.out.cap_le (by decide) (BB_made _ ex_ok) (.inl (by decide)) HC5.out rfl (by decide) (secs_made (by decide) (by decide) ex_ok)).mono ?_
  rintro e w6 ⟨v6, rfl, hr⟩
  rw [ex_read] at hr
  obtain ⟨A6, c6, rfl, -, hC6, hb6⟩ := hr.form
  have hB6 := Aside0.mk (below_step hB5.out hb6)
  have HC6 := Aside0.mk hC6
  clear hr hb6 hC6
  rw [show (readN (madeB 10 [ex1, ex2]) (secsM 10 [ex1, ex2])).2 = 0 by rw [ex_read]]
  refine ⟨_, rfl, ?_⟩
  (try simp only [Act.put, List.setIfInBounds_toArray, List.set_cons_zero, List.set_cons_succ])
  refine RS.t1 23 rfl (by kernel_rfl) (.tuple #[.slice A6 2 c6, .int .i64 0]) (by kernel_rfl) ?_
  (try simp only [Act.put, List.setIfInBounds_toArray, List.set_cons_zero, List.set_cons_succ])
  refine RS.t1 27 rfl (by kernel_rfl) (.slice A6 2 c6) (by kernel_rfl) ?_
  (try simp only [Act.put, List.setIfInBounds_toArray, List.set_cons_zero, List.set_cons_succ])
  refine RS.t1 28 rfl (by kernel_rfl) (.int .i64 0) (by kernel_rfl) ?_
  (try simp only [Act.put, List.setIfInBounds_toArray, List.set_cons_zero, List.set_cons_succ])
  refine RS.t1 5 rfl (by kernel_rfl) (.slice A6 2 c6) (by kernel_rfl) ?_
  (try simp only [Act.put, List.setIfInBounds_toArray, List.set_cons_zero, List.set_cons_succ])
  refine RS.t1 6 rfl (by kernel_rfl) (.int .i64 0) (by kernel_rfl) ?_
  (try simp only [Act.put, List.setIfInBounds_toArray, List.set_cons_zero, List.set_cons_succ])
  clear HO5 HC5 N5
  go_upto_region 4 with (fail)
  refine wp_region_lit ?_
  refine RS.t1 30 rfl (by kernel_rfl) (.slice A6 2 c6) (by kernel_rfl) ?_
  (try simp only [Act.put, List.setIfInBounds_toArray, List.set_cons_zero, List.set_cons_succ])
  refine RS.tC 31 rfl (by kernel_rfl) (show _ = Result.ok (Next.enter 14 #[.slice A6 2 c6, .string ⟨#[102]⟩]) _ from by kernel_rfl) ?_
  refine (find_calls A6 c6 2 ⟨#[102]⟩ [exS1, exS2] w6 HC6.out rfl (by decide)).mono ?_
  rintro e w7 ⟨rfl, hb7⟩
  have hB7 := Aside0.mk (below_step hB6.out hb7)
  have HC7 := Aside0.mk (Kd.C_below HC6.out hb7)
  clear hb7
  refine ⟨_, rfl, ?_⟩
  (try simp only [Act.put, List.setIfInBounds_toArray, List.set_cons_zero, List.set_cons_succ])
  refine RS.t1 29 rfl (by kernel_rfl) (.tuple #[.agg #[.string ⟨#[102]⟩, .int .u64 77, .int .u64 5, .bool true], .int .i64 0]) (by kernel_rfl) ?_
  (try simp only [Act.put, List.setIfInBounds_toArray, List.set_cons_zero, List.set_cons_succ])
  refine RS.t1 32 rfl (by kernel_rfl) (.agg #[.string ⟨#[102]⟩, .int .u64 77, .int .u64 5, .bool true]) (by kernel_rfl) ?_
  (try simp only [Act.put, List.setIfInBounds_toArray, List.set_cons_zero, List.set_cons_succ])
  refine RS.t1 33 rfl (by kernel_rfl) (.int .i64 0) (by kernel_rfl) ?_
  (try simp only [Act.put, List.setIfInBounds_toArray, List.set_cons_zero, List.set_cons_succ])
  obtain ⟨g7, hg_⟩ : ∃ g_, w7.heap.size = g_ := ⟨_, rfl⟩
  refine RS.tE 7 rfl (by kernel_rfl) (v := .pointer (some ⟨g7, 0, none⟩)) ((show _ = Result.ok (.value (.pointer (some ⟨w7.heap.size, 0, none⟩))) (w7.alloc (.cells #[.string ⟨#[]⟩, .int .u64 0, .int .u64 0, .bool false] 38 (0, 0))) from by kernel_rfl).trans (by rw [hg_])) ?_
  obtain ⟨w8, hw_⟩ : ∃ w_, w7.alloc (.cells #[.string ⟨#[]⟩, .int .u64 0, .int .u64 0, .bool false] 38 (0, 0)) = w_ := ⟨_, rfl⟩
  rw [hw_]
  have hb_ : Below w7.heap.size w7 w8 := by rw [← hw_]; exact bX_ (Below.refl _ _) _
  have hn_ : w8.heap[g7]? = some (.cells #[.string ⟨#[]⟩, .int .u64 0, .int .u64 0, .bool false] 38 (0, 0)) := by rw [← hw_, ← hg_]; exact World.alloc_heap_new w7 _
  have hB8 := Aside0.mk (below_step hB7.out hb_)
  have H78 := Aside0.mk hb_
  have N8 := Aside0.mk hn_
  have HG7 := Aside0.mk hg_
  clear hw_ hb_ hn_
  (try simp only [Act.put, List.setIfInBounds_toArray, List.set_cons_zero, List.set_cons_succ])
  refine RS.tS rfl (by kernel_rfl) (run_store_row (g := g7) (cells := #[.string ⟨#[102]⟩, .int .u64 77, .int .u64 5, .bool true]) rfl (by kernel_rfl) (by kernel_rfl) N8.out (by kernel_rfl) rfl (by simp [Value.oneCell'])) ?_
  obtain ⟨w9, hw_⟩ : ∃ w_, w8.setRow g7 #[.string ⟨#[102]⟩, .int .u64 77, .int .u64 5, .bool true] = w_ := ⟨_, rfl⟩
  rw [hw_]
  have hb_ : Below w7.heap.size w7 w9 := by rw [← hw_]; exact below_setRow H78.out (by rw [HG7.out]; exact Nat.le_refl _) _
  have hn_ : w9.heap[g7]? = some (.cells #[.string ⟨#[102]⟩, .int .u64 77, .int .u64 5, .bool true] 38 (0, 0)) := by rw [← hw_]; exact setRow_heap w8 g7 _ _ 38 (0, 0) N8.out
  have hB9 := Aside0.mk (below_step hB7.out hb_)
  have HC9 := Aside0.mk (Kd.C_below HC7.out hb_)
  have N9 := Aside0.mk hn_
  clear hw_ hb_ hn_
  refine RS.t1 8 rfl (by kernel_rfl) (.int .i64 0) (by kernel_rfl) ?_
  (try simp only [Act.put, List.setIfInBounds_toArray, List.set_cons_zero, List.set_cons_succ])
  clear HC6 HC7 hB8 H78 N8 HG7
  go_upto_region 5 with (fail)
  refine wp_region_lit ?_
  refine RS.t1 35 rfl (by kernel_rfl) (.slice A6 2 c6) (by kernel_rfl) ?_
  (try simp only [Act.put, List.setIfInBounds_toArray, List.set_cons_zero, List.set_cons_succ])
  refine RS.tC 36 rfl (by kernel_rfl) (show _ = Result.ok (Next.enter 14 #[.slice A6 2 c6, .string ⟨#[120]⟩]) _ from by kernel_rfl) ?_
  refine (find_calls A6 c6 2 ⟨#[120]⟩ [exS1, exS2] w9 HC9.out rfl (by decide)).mono ?_
  rintro e w10 ⟨rfl, hb7⟩
  have hB10 := Aside0.mk (below_step hB9.out hb7)
  have HC10 := Aside0.mk (Kd.C_below HC9.out hb7)
  have N10 := Aside0.mk (heap_below hb7 N9.out)
  clear hb7
  refine ⟨_, rfl, ?_⟩
  (try simp only [Act.put, List.setIfInBounds_toArray, List.set_cons_zero, List.set_cons_succ])
  refine RS.t1 34 rfl (by kernel_rfl) (.tuple #[.agg #[.string ⟨#[]⟩, .int .u64 0, .int .u64 0, .bool false], .int .i64 40]) (by kernel_rfl) ?_
  (try simp only [Act.put, List.setIfInBounds_toArray, List.set_cons_zero, List.set_cons_succ])
  refine RS.t1 37 rfl (by kernel_rfl) (.agg #[.string ⟨#[]⟩, .int .u64 0, .int .u64 0, .bool false]) (by kernel_rfl) ?_
  (try simp only [Act.put, List.setIfInBounds_toArray, List.set_cons_zero, List.set_cons_succ])
  refine RS.t1 38 rfl (by kernel_rfl) (.int .i64 40) (by kernel_rfl) ?_
  (try simp only [Act.put, List.setIfInBounds_toArray, List.set_cons_zero, List.set_cons_succ])
  obtain ⟨g9, hg_⟩ : ∃ g_, w10.heap.size = g_ := ⟨_, rfl⟩
  refine RS.tE 9 rfl (by kernel_rfl) (v := .pointer (some ⟨g9, 0, none⟩)) ((show _ = Result.ok (.value (.pointer (some ⟨w10.heap.size, 0, none⟩))) (w10.alloc (.cells #[.string ⟨#[]⟩, .int .u64 0, .int .u64 0, .bool false] 38 (0, 0))) from by kernel_rfl).trans (by rw [hg_])) ?_
  obtain ⟨w11, hw_⟩ : ∃ w_, w10.alloc (.cells #[.string ⟨#[]⟩, .int .u64 0, .int .u64 0, .bool false] 38 (0, 0)) = w_ := ⟨_, rfl⟩
  rw [hw_]
  have hb_ : Below w10.heap.size w10 w11 := by rw [← hw_]; exact bX_ (Below.refl _ _) _
  have hn_ : w11.heap[g9]? = some (.cells #[.string ⟨#[]⟩, .int .u64 0, .int .u64 0, .bool false] 38 (0, 0)) := by rw [← hw_, ← hg_]; exact World.alloc_heap_new w10 _
  have H1011 := Aside0.mk hb_
  have N11 := Aside0.mk hn_
  have HG9 := Aside0.mk hg_
  clear hw_ hb_ hn_
  (try simp only [Act.put, List.setIfInBounds_toArray, List.set_cons_zero, List.set_cons_succ])
  refine RS.tS rfl (by kernel_rfl) (run_store_row (g := g9) (cells := #[.string ⟨#[]⟩, .int .u64 0, .int .u64 0, .bool false]) rfl (by kernel_rfl) (by kernel_rfl) N11.out (by kernel_rfl) rfl (by simp [Value.oneCell'])) ?_
  obtain ⟨w12, hw_⟩ : ∃ w_, w11.setRow g9 #[.string ⟨#[]⟩, .int .u64 0, .int .u64 0, .bool false] = w_ := ⟨_, rfl⟩
  rw [hw_]
  have hb_ : Below w10.heap.size w10 w12 := by rw [← hw_]; exact below_setRow H1011.out (by rw [HG9.out]; exact Nat.le_refl _) _
  have hn_ : w12.heap[g9]? = some (.cells #[.string ⟨#[]⟩, .int .u64 0, .int .u64 0, .bool false] 38 (0, 0)) := by rw [← hw_]; exact setRow_heap w11 g9 _ _ 38 (0, 0) N11.out
  have hB12 := Aside0.mk (below_step hB10.out hb_)
  have HC12 := Aside0.mk (Kd.C_below HC10.out hb_)
  have N12 := Aside0.mk (heap_below hb_ N10.out)
  clear hw_ hb_ hn_
  refine RS.t1 10 rfl (by kernel_rfl) (.int .i64 40) (by kernel_rfl) ?_
  (try simp only [Act.put, List.setIfInBounds_toArray, List.set_cons_zero, List.set_cons_succ])
  clear HC9 N9 HC10 N10 H1011 N11 HG9
  go_upto_region 6 with (fail)
  refine wp_region_lit ?_
  refine RS.t1 39 rfl (by kernel_rfl) (.slice A1 0 c1) (by kernel_rfl) ?_
  (try simp only [Act.put, List.setIfInBounds_toArray, List.set_cons_zero, List.set_cons_succ])
  refine RS.t1 40 rfl (by kernel_rfl) (.int .i64 0) (by kernel_rfl) ?_
  (try simp only [Act.put, List.setIfInBounds_toArray, List.set_cons_zero, List.set_cons_succ])
  refine RS.t1 41 rfl (by kernel_rfl) (.bool true) (by kernel_rfl) ?_
  (try simp only [Act.put, List.setIfInBounds_toArray, List.set_cons_zero, List.set_cons_succ])
  refine RS.t1 42 rfl (by kernel_rfl) (.bool true) (by kernel_rfl) ?_
  (try simp only [Act.put, List.setIfInBounds_toArray, List.set_cons_zero, List.set_cons_succ])
  refine RS.t1 43 rfl (by kernel_rfl) (.int .i64 0) (by kernel_rfl) ?_
  (try simp only [Act.put, List.setIfInBounds_toArray, List.set_cons_zero, List.set_cons_succ])
  refine RS.t1 44 rfl (by kernel_rfl) (.bool true) (by kernel_rfl) ?_
  (try simp only [Act.put, List.setIfInBounds_toArray, List.set_cons_zero, List.set_cons_succ])
  refine RS.t1 45 rfl (by kernel_rfl) (.bool true) (by kernel_rfl) ?_
  (try simp only [Act.put, List.setIfInBounds_toArray, List.set_cons_zero, List.set_cons_succ])
  refine RS.t1 46 rfl (by kernel_rfl) (.bool true) (by kernel_rfl) ?_
  (try simp only [Act.put, List.setIfInBounds_toArray, List.set_cons_zero, List.set_cons_succ])
  refine RS.t1 47 rfl (by kernel_rfl) (.int .i64 0) (by kernel_rfl) ?_
  (try simp only [Act.put, List.setIfInBounds_toArray, List.set_cons_zero, List.set_cons_succ])
  refine RS.t1 48 rfl (by kernel_rfl) (.bool true) (by kernel_rfl) ?_
  (try simp only [Act.put, List.setIfInBounds_toArray, List.set_cons_zero, List.set_cons_succ])
  refine RS.t1 49 rfl (by kernel_rfl) (.bool true) (by kernel_rfl) ?_
  (try simp only [Act.put, List.setIfInBounds_toArray, List.set_cons_zero, List.set_cons_succ])
  refine RS.t1 50 rfl (by kernel_rfl) (.bool true) (by kernel_rfl) ?_
  (try simp only [Act.put, List.setIfInBounds_toArray, List.set_cons_zero, List.set_cons_succ])
  refine RS.t1 51 rfl (by kernel_rfl) (.slice A6 2 c6) (by kernel_rfl) ?_
  (try simp only [Act.put, List.setIfInBounds_toArray, List.set_cons_zero, List.set_cons_succ])
  refine RS.t1 52 rfl (by kernel_rfl) (.int .i64 2) (by kernel_rfl) ?_
  (try simp only [Act.put, List.setIfInBounds_toArray, List.set_cons_zero, List.set_cons_succ])
  refine RS.t1 53 rfl (by kernel_rfl) (.bool true) (by kernel_rfl) ?_
  (try simp only [Act.put, List.setIfInBounds_toArray, List.set_cons_zero, List.set_cons_succ])
  refine RS.t1 54 rfl (by kernel_rfl) (.bool true) (by kernel_rfl) ?_
  (try simp only [Act.put, List.setIfInBounds_toArray, List.set_cons_zero, List.set_cons_succ])
  refine RS.t1 55 rfl (by kernel_rfl) (.bool true) (by kernel_rfl) ?_
  (try simp only [Act.put, List.setIfInBounds_toArray, List.set_cons_zero, List.set_cons_succ])
  refine RS.t1 56 rfl (by kernel_rfl) (.int .i64 0) (by kernel_rfl) ?_
  (try simp only [Act.put, List.setIfInBounds_toArray, List.set_cons_zero, List.set_cons_succ])
  refine RS.t1 57 rfl (by kernel_rfl) (.bool true) (by kernel_rfl) ?_
  (try simp only [Act.put, List.setIfInBounds_toArray, List.set_cons_zero, List.set_cons_succ])
  refine RS.t1 58 rfl (by kernel_rfl) (.bool true) (by kernel_rfl) ?_
  (try simp only [Act.put, List.setIfInBounds_toArray, List.set_cons_zero, List.set_cons_succ])
  refine RS.t1 59 rfl (by kernel_rfl) (.bool true) (by kernel_rfl) ?_
  (try simp only [Act.put, List.setIfInBounds_toArray, List.set_cons_zero, List.set_cons_succ])
  refine RS.t1 60 rfl (by kernel_rfl) (.pointer (some ⟨g7, 1, none⟩)) (by kernel_rfl) ?_
  (try simp only [Act.put, List.setIfInBounds_toArray, List.set_cons_zero, List.set_cons_succ])
  refine RS.t1 61 rfl (by kernel_rfl) (.int .u64 77) (ld (d := .int .u64) Try.underlying26 rfl ((bC_ N12.out 1).trans rfl) rfl (by kernel_rfl)) ?_
  (try simp only [Act.put, List.setIfInBounds_toArray, List.set_cons_zero, List.set_cons_succ])
  refine RS.t1 62 rfl (by kernel_rfl) (.bool true) (by kernel_rfl) ?_
  (try simp only [Act.put, List.setIfInBounds_toArray, List.set_cons_zero, List.set_cons_succ])
  refine RS.t1 63 rfl (by kernel_rfl) (.bool true) (by kernel_rfl) ?_
  (try simp only [Act.put, List.setIfInBounds_toArray, List.set_cons_zero, List.set_cons_succ])
  refine RS.t1 64 rfl (by kernel_rfl) (.bool true) (by kernel_rfl) ?_
  (try simp only [Act.put, List.setIfInBounds_toArray, List.set_cons_zero, List.set_cons_succ])
  refine RS.t1 65 rfl (by kernel_rfl) (.int .i64 40) (by kernel_rfl) ?_
  (try simp only [Act.put, List.setIfInBounds_toArray, List.set_cons_zero, List.set_cons_succ])
  refine RS.t1 66 rfl (by kernel_rfl) (.bool true) (by kernel_rfl) ?_
  (try simp only [Act.put, List.setIfInBounds_toArray, List.set_cons_zero, List.set_cons_succ])
  refine RS.t1 67 rfl (by kernel_rfl) (.bool true) (by kernel_rfl) ?_
  (try simp only [Act.put, List.setIfInBounds_toArray, List.set_cons_zero, List.set_cons_succ])
  refine RS.t1 68 rfl (by kernel_rfl) (.bool true) (by kernel_rfl) ?_
  (try simp only [Act.put, List.setIfInBounds_toArray, List.set_cons_zero, List.set_cons_succ])
  refine RS.t1 69 rfl (by kernel_rfl) (.slice A6 2 c6) (by kernel_rfl) ?_
  (try simp only [Act.put, List.setIfInBounds_toArray, List.set_cons_zero, List.set_cons_succ])
  refine RS.tC 70 rfl (by kernel_rfl) (show _ = Result.ok (Next.enter 16 #[.slice A6 2 c6]) _ from by kernel_rfl) ?_
  refine (functions_calls A6 c6 2 [exS1, exS2] w12 HC12.out rfl (by decide)).mono ?_
  rintro e w13 ⟨v13, rfl, ys, hss, hr⟩
  have hl13 : ys.length = 1 := by rw [hss.length, ex_funs]; rfl
  obtain ⟨A13, c13, rfl, -, -, hb13⟩ := hr.form
  have hB13 := Aside0.mk (below_step hB12.out hb13)
  rw [hl13]
  clear hr hb13 hss hl13
  refine ⟨_, rfl, ?_⟩
  (try simp only [Act.put, List.setIfInBounds_toArray, List.set_cons_zero, List.set_cons_succ])
  refine RS.t1 71 rfl (by kernel_rfl) (.int .i64 1) (by kernel_rfl) ?_
  (try simp only [Act.put, List.setIfInBounds_toArray, List.set_cons_zero, List.set_cons_succ])
  refine RS.t1 72 rfl (by kernel_rfl) (.bool true) (by kernel_rfl) ?_
  (try simp only [Act.put, List.setIfInBounds_toArray, List.set_cons_zero, List.set_cons_succ])
  refine RS.t1 73 rfl (by kernel_rfl) (.bool true) (by kernel_rfl) ?_
  (try simp only [Act.put, List.setIfInBounds_toArray, List.set_cons_zero, List.set_cons_succ])
  refine RS.t1 0 rfl (by kernel_rfl) (.bool true) (by kernel_rfl) ?_
  (try simp only [Act.put, List.setIfInBounds_toArray, List.set_cons_zero, List.set_cons_succ])
  go_wp2_with fail
  go_ret
  exact ⟨rfl, hB13.out⟩
end Go.Proofs.Ytgdhciilobnelaa.B
namespace Go.Proofs.Ytgdhciilobnelaa.B
open Go.RowKit Go.Proofs.YtgdhciilobnelaaW.PrintWords Go.Proofs.YtgdhciilobnelaaW.PrintLast Go.Proofs.YtgdhciilobnelaaW.PrintMore
attribute [local go_sem] max2_int min2_int max_two min_two max_three min_three max_four min_four   -- for this text's walks alone
set_option linter.unusedVariables false
set_option linter.unusedSimpArgs false
attribute [local go_sem high] eqA38
end Go.Proofs.Ytgdhciilobnelaa.B
namespace Go.Proofs.Ytgdhciilobnelaa.B
open Go.RowKit Go.Proofs.YtgdhciilobnelaaW.PrintWords Go.Proofs.YtgdhciilobnelaaW.PrintLast Go.Proofs.YtgdhciilobnelaaW.PrintMore
set_option linter.unusedVariables false
set_option linter.unusedSimpArgs false
theorem w1 {i : Nat} (h : i ≤ 100) : wrap64 ((i : Int) + 1) = ((i + 1 : Nat) : Int) := by unfold wrap64; omega
end Go.Proofs.Ytgdhciilobnelaa.B
namespace Go.Proofs.Ytgdhciilobnelaa.B
open Go.RowKit Go.Lib Go.Proofs.YtgdhciilobnelaaW.PrintWords Go.Proofs.YtgdhciilobnelaaW.PrintLast Go.Proofs.YtgdhciilobnelaaW.PrintMore Go.RF
set_option linter.unusedVariables false
set_option linter.unusedSimpArgs false
attribute [local go_sem] max2_int min2_int max_two min_two
end Go.Proofs.Ytgdhciilobnelaa.B
