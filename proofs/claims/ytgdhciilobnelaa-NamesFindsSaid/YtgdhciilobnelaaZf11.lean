/- Insertion sort of a part of a row of symbols. Merging two sorted parts: the plain laws. -/
import Derived.Test.YtgdhciilobnelaaZf10
namespace Go.Proofs.Ytgdhciilobnelaa.B
open Go.RowKit Go.Lib Go.Proofs.YtgdhciilobnelaaW.PrintWords Go.Proofs.YtgdhciilobnelaaW.PrintLast Go.Proofs.YtgdhciilobnelaaW.PrintMore Go.RF
set_option linter.unusedVariables false
set_option linter.unusedSimpArgs false
attribute [local go_sem] max2_int min2_int max_two min_two
set_option maxHeartbeats 8000000 in
set_option maxRecDepth 100000 in
theorem insertion_calls (base g cap n a b : Nat) (P X S : List S38) (w0 : World) (h : SB base g cap (P ++ (X ++ S)) w0) (hn : (P ++ (X ++ S)).length = n) (ha : P.length = a) (hb : P.length + X.length = b) (hm : n ≤ 1000000) :
    Calls Try.prog 42 #[.slice (some ⟨g, 0, none⟩) n cap, .int .i64 (a : Int), .int .i64 (b : Int), .func (.func 30) #[] #[]] w0 fun e w' => e = .returned (.tuple #[]) ∧ ∃ X', SS X X' ∧ SW w0 base g cap (P ++ (X' ++ S)) w' := by
  have H := Aside0.mk h
  have hbn : b ≤ n := by simp only [List.length_append] at hn; omega
  have HN := Aside0.mk hn
  have HA := Aside0.mk ha
  have HB := Aside0.mk hb
  have han : a ≤ b := by omega
  clear h hn ha hb
  go_enter Try.func42, Try.ntmps42
  go_upto_region 0 with (fail)
  refine RS.wp_textE [(10, .int .i64 ((a : Nat) : Int)), (11, .int .i64 ((a + 1 : Nat) : Int)), (8, .int .i64 ((a + 1 : Nat) : Int))] (fun f w => w0 = w) (by kernel_rfl) (by kernel_rfl) (fun f hf => ?_) ?_ ?_
  · rfl
  · exact ⟨RS.StepE.pure 10 (by kernel_rfl) rfl (fun w => by kernel_rfl) (fun f w h => h),
      RS.StepE.load 11 (.int .i64 ((a + 1 : Nat) : Int)) (by kernel_rfl) (by kernel_rfl) rfl (fun f w h => h) (fun f w p1 p2 h => n_add (by omega) rfl (by kernel_rfl) (by kernel_rfl)),
      RS.StepE.pure 8 (by kernel_rfl) rfl (fun w => by kernel_rfl) (fun f w h => h), trivial⟩
  rintro f wx hf rfl
  clear hf
  (try simp only [RS.sets, List.setIfInBounds_toArray, List.set_cons_zero, List.set_cons_succ])
  go_upto_region 1 with (fail)
  go_loopw [8] (fun t wr => ∃ i : Nat, t = .int .i64 (i : Int) ∧ a < i ∧ (i ≤ b ∨ i = a + 1) ∧ ∃ Y, SS (X.take (i - a)) Y ∧ SW w0 base g cap (P ++ (Y ++ (X.drop (i - a) ++ S))) wr) (fun t _ => ((b : Int) - intOf t).toNat)
  case atStart => exact ⟨a + 1, rfl, by omega, .inr rfl, X.take (a + 1 - a), SS.short (by rw [List.length_take]; omega), by rw [← List.append_assoc (X.take _), List.take_append_drop]; exact SW.start H.out⟩
  case round =>
    obtain ⟨i, rfl, hai, hib, Y, hy, hs⟩ := hrel
    have HS := Aside0.mk hs
    have HY := Aside0.mk hy
    clear hs hy
    by_cases hin : i < b
    · go_upto_region 1 with (fail)
      refine RS.wp_textE [(12, .int .i64 ((i : Nat) : Int)), (13, .int .i64 ((b : Nat) : Int)), (14, .bool true)] (fun f w => wr = w) (by kernel_rfl) (by kernel_rfl) (fun f hf => ?_) ?_ ?_
      · rfl
      · exact ⟨RS.StepE.pure 12 (by kernel_rfl) rfl (fun w => by kernel_rfl) (fun f w h => h),
          RS.StepE.pure 13 (by kernel_rfl) rfl (fun w => by kernel_rfl) (fun f w h => h),
          RS.StepE.load 14 (.bool true) (by kernel_rfl) (by kernel_rfl) rfl (fun f w h => h) (fun f w p1 p2 h => n_lss (a := i) (b := b) (r := true) (decide_eq_true (show i < b from by omega)) rfl (by kernel_rfl) (by kernel_rfl)), trivial⟩
      rintro f wx hf rfl
      clear hf
      (try simp only [RS.sets, List.setIfInBounds_toArray, List.set_cons_zero, List.set_cons_succ])
      go_upto_region 3 with (fail)
      refine RS.wp_textE [(17, .int .i64 ((i : Nat) : Int)), (9, .int .i64 ((i : Nat) : Int))] (fun f w => wr = w) (by kernel_rfl) (by kernel_rfl) (fun f hf => ?_) ?_ ?_
      · rfl
      · exact ⟨RS.StepE.pure 17 (by kernel_rfl) rfl (fun w => by kernel_rfl) (fun f w h => h),
          RS.StepE.pure 9 (by kernel_rfl) rfl (fun w => by kernel_rfl) (fun f w h => h), trivial⟩
      rintro f wx hf rfl
      clear hf
      (try simp only [RS.sets, List.setIfInBounds_toArray, List.set_cons_zero, List.set_cons_succ])
      have hk : i - a < X.length := by have := HA.out; have := HB.out; omega
      obtain ⟨x, hx⟩ : ∃ x, X.getD (i - a) z38 = x := ⟨_, rfl⟩
      have HX := Aside0.mk (take_next hk)
      rw [hx, show i - a + 1 = i + 1 - a by omega] at HX
      rw [HX.out.2] at HS
      have hyl : Y.length = i - a := by rw [HY.out.length, List.length_take]; omega
      have hln : (P ++ (Y ++ x :: (X.drop (i + 1 - a) ++ S))).length = n := by
        have h1 := HN.out
        have h2 := congrArg List.length HX.out.2
        simp only [List.length_append, List.length_cons, List.length_drop] at h1 h2 ⊢
        omega
      have HSt := Aside0.mk (InsI.start P Y (X.drop (i + 1 - a) ++ S) x)
      rw [hyl, show P.length + (i - a) = i by have := HA.out; omega] at HSt
      have HYL := Aside0.mk hyl
      have HLN := Aside0.mk hln
      clear hx hyl hln hk
      go_upto_region 4 with (fail)
      go_loopw [9] (fun t wq => ∃ j : Nat, t = .int .i64 (j : Int) ∧ ∃ cur, InsI P Y (X.drop (i + 1 - a) ++ S) x j cur ∧ cur.length = n ∧ SW w0 base g cap cur wq) (fun t _ => (intOf t).toNat)
      case atStart => exact ⟨i, rfl, _, HSt.out, HLN.out, HS.out⟩
      case round =>
        obtain ⟨j, rfl, cur, hi, hl, hs⟩ := hrel
        have HI := Aside0.mk hi
        have HQ := Aside0.mk hs
        have HL := Aside0.mk hl
        obtain ⟨hx, hjl, haj, hji⟩ := hi.at_
        rw [hl] at hjl
        rw [HA.out] at haj
        rw [HYL.out, HA.out] at hji
        have GX := Aside0.mk hx
        clear hx hi hs hl
        by_cases hja : a < j
        · by_cases hlt : (cur.getD j z38).f1 < (cur.getD (j - 1) z38).f1
          · have HLT := Aside0.mk hlt
            clear hlt
            go_upto_region 4 with (fail)
            refine RS.wp_events (by kernel_rfl) [(18, .int .i64 ((j : Nat) : Int)), (19, .int .i64 ((a : Nat) : Int)), (20, .bool true), (21, .bool true), (22, .func (.func 30) #[] #[]), (23, .slice (some ⟨g, 0, none⟩) n cap), (24, .int .i64 ((j : Nat) : Int)), (25, .pointer (some ⟨g, (j) * 4, none⟩)), (26, .agg (encS ((cur).getD (j) z38))), (27, .slice (some ⟨g, 0, none⟩) n cap), (28, .int .i64 ((j : Nat) : Int)), (29, .int .i64 ((j - 1 : Nat) : Int)), (30, .pointer (some ⟨g, (j - 1) * 4, none⟩)), (31, .agg (encS ((cur).getD (j - 1) z38))), (32, .int .i64 (cmpI (cur.getD (j) z38).f1 (cur.getD (j - 1) z38).f1)), (33, .bool true), (34, .bool true)] (fun f w => SW w0 base g cap (cur) w) (by kernel_rfl) (by kernel_rfl) (fun f hf => ?_) ?_ ?_
            · exact HQ.out.drew
            · exact ⟨RS.StepE.pure 18 (by kernel_rfl) rfl (fun w => by kernel_rfl) (fun f w h => h),
                RS.StepE.pure 19 (by kernel_rfl) rfl (fun w => by kernel_rfl) (fun f w h => h),
                RS.StepE.load 20 (.bool true) (by kernel_rfl) (by kernel_rfl) rfl (fun f w h => h) (fun f w p1 p2 h => n_gtr (a := j) (b := a) (r := true) (decide_eq_true (show a < j from by omega)) rfl (by kernel_rfl) (by kernel_rfl)),
                RS.StepE.pure 21 (by kernel_rfl) rfl (fun w => by kernel_rfl) (fun f w h => h),
                RS.StepE.pure 22 (by kernel_rfl) rfl (fun w => by kernel_rfl) (fun f w h => h),
                RS.StepE.pure 23 (by kernel_rfl) rfl (fun w => by kernel_rfl) (fun f w h => h),
                RS.StepE.pure 24 (by kernel_rfl) rfl (fun w => by kernel_rfl) (fun f w h => h),
                RS.StepE.load 25 (.pointer (some ⟨g, (j) * 4, none⟩)) (by kernel_rfl) (by kernel_rfl) rfl (fun f w h => h) (fun f w p1 p2 h => SB.index (n := n) (cap := cap) (i := j) (by omega) rfl (by kernel_rfl) (by kernel_rfl)),
                RS.StepE.load 26 (.agg (encS ((cur).getD (j) z38))) (by kernel_rfl) (by kernel_rfl) rfl (fun f w h => h) (fun f w p1 p2 h => (show SB _ g _ (cur) w from by exact h.2).load (i := j) (by have := HL.out; omega) rfl (by kernel_rfl)),
                RS.StepE.pure 27 (by kernel_rfl) rfl (fun w => by kernel_rfl) (fun f w h => h),
                RS.StepE.pure 28 (by kernel_rfl) rfl (fun w => by kernel_rfl) (fun f w h => h),
                RS.StepE.load 29 (.int .i64 ((j - 1 : Nat) : Int)) (by kernel_rfl) (by kernel_rfl) rfl (fun f w h => h) (fun f w p1 p2 h => n_sub (by omega) (by omega) rfl (by kernel_rfl) (by kernel_rfl)),
                RS.StepE.load 30 (.pointer (some ⟨g, (j - 1) * 4, none⟩)) (by kernel_rfl) (by kernel_rfl) rfl (fun f w h => h) (fun f w p1 p2 h => SB.index (n := n) (cap := cap) (i := j - 1) (by omega) rfl (by kernel_rfl) (by kernel_rfl)),
                RS.StepE.load 31 (.agg (encS ((cur).getD (j - 1) z38))) (by kernel_rfl) (by kernel_rfl) rfl (fun f w h => h) (fun f w p1 p2 h => (show SB _ g _ (cur) w from by exact h.2).load (i := j - 1) (by have := HL.out; omega) rfl (by kernel_rfl)),
                RS.StepE.call 32 30 #[.agg (encS (cur.getD (j) z38)), .agg (encS (cur.getD (j - 1) z38))] (.int .i64 (cmpI (cur.getD (j) z38).f1 (cur.getD (j - 1) z38).f1)) (by kernel_rfl) (by kernel_rfl) rfl (fun w => by kernel_rfl) (fun f w h0 p1 p2 h => (cmp_calls (cur.getD (j) z38) (cur.getD (j - 1) z38) w).mono (by rintro e w' ⟨rfl, hb⟩; exact ⟨rfl, h.below hb⟩)),
                RS.StepE.load 33 (.bool true) (by kernel_rfl) (by kernel_rfl) rfl (fun f w h => h) (fun f w p1 p2 h => i_lss (a := cmpI (cur.getD (j) z38).f1 (cur.getD (j - 1) z38).f1) (b := 0) (cmp_yes (HLT.out)) rfl (by kernel_rfl) (by kernel_rfl)),
                RS.StepE.pure 34 (by kernel_rfl) rfl (fun w => by kernel_rfl) (fun f w h => h), trivial⟩
            rintro f w1 hf hs
            have H1 := Aside0.mk hs
            clear hf hs
            (try simp only [RS.sets, List.setIfInBounds_toArray, List.set_cons_zero, List.set_cons_succ])
            go_upto_region 6 with (fail)
            refine RS.wp_events (by kernel_rfl) [(37, .slice (some ⟨g, 0, none⟩) n cap), (38, .int .i64 ((j : Nat) : Int)), (39, .slice (some ⟨g, 0, none⟩) n cap), (40, .int .i64 ((j : Nat) : Int)), (41, .int .i64 ((j - 1 : Nat) : Int)), (42, .slice (some ⟨g, 0, none⟩) n cap), (43, .int .i64 ((j : Nat) : Int)), (44, .int .i64 ((j - 1 : Nat) : Int)), (45, .pointer (some ⟨g, (j - 1) * 4, none⟩)), (46, .agg (encS ((cur).getD (j - 1) z38))), (47, .slice (some ⟨g, 0, none⟩) n cap), (48, .int .i64 ((j : Nat) : Int)), (49, .pointer (some ⟨g, (j) * 4, none⟩)), (50, .agg (encS ((cur).getD (j) z38))), (51, .pointer (some ⟨g, (j) * 4, none⟩)), (52, .pointer (some ⟨g, (j - 1) * 4, none⟩))] (fun f w => SW w0 base g cap (swS (cur) (j) (j - 1) (f 15) (f 17)) w) (by kernel_rfl) (by kernel_rfl) (fun f hf => ?_) ?_ ?_
            · simp only [hf 15 (by decide), hf 17 (by decide)]
              exact H1.out.drew
            · exact ⟨RS.StepE.pure 37 (by kernel_rfl) rfl (fun w => by kernel_rfl) (fun f w h => h),
                RS.StepE.pure 38 (by kernel_rfl) rfl (fun w => by kernel_rfl) (fun f w h => h),
                RS.StepE.pure 39 (by kernel_rfl) rfl (fun w => by kernel_rfl) (fun f w h => h),
                RS.StepE.pure 40 (by kernel_rfl) rfl (fun w => by kernel_rfl) (fun f w h => h),
                RS.StepE.load 41 (.int .i64 ((j - 1 : Nat) : Int)) (by kernel_rfl) (by kernel_rfl) rfl (fun f w h => h) (fun f w p1 p2 h => n_sub (by omega) (by omega) rfl (by kernel_rfl) (by kernel_rfl)),
                RS.StepE.pure 42 (by kernel_rfl) rfl (fun w => by kernel_rfl) (fun f w h => h),
                RS.StepE.pure 43 (by kernel_rfl) rfl (fun w => by kernel_rfl) (fun f w h => h),
                RS.StepE.load 44 (.int .i64 ((j - 1 : Nat) : Int)) (by kernel_rfl) (by kernel_rfl) rfl (fun f w h => h) (fun f w p1 p2 h => n_sub (by omega) (by omega) rfl (by kernel_rfl) (by kernel_rfl)),
                RS.StepE.load 45 (.pointer (some ⟨g, (j - 1) * 4, none⟩)) (by kernel_rfl) (by kernel_rfl) rfl (fun f w h => h) (fun f w p1 p2 h => SB.index (n := n) (cap := cap) (i := j - 1) (by omega) rfl (by kernel_rfl) (by kernel_rfl)),
                RS.StepE.load 46 (.agg (encS ((cur).getD (j - 1) z38))) (by kernel_rfl) (by kernel_rfl) rfl (fun f w h => h) (fun f w p1 p2 h => (show SB _ g _ (cur) w from by have e1 : f 15 = false := p2 15 (by kernel_rfl) (by decide); have e2 : f 17 = false := p2 17 (by kernel_rfl) (by decide); have h' := h.2; simp only [e1, e2] at h'; exact h').load (i := j - 1) (by have := HL.out; omega) rfl (by kernel_rfl)),
                RS.StepE.pure 47 (by kernel_rfl) rfl (fun w => by kernel_rfl) (fun f w h => h),
                RS.StepE.pure 48 (by kernel_rfl) rfl (fun w => by kernel_rfl) (fun f w h => h),
                RS.StepE.load 49 (.pointer (some ⟨g, (j) * 4, none⟩)) (by kernel_rfl) (by kernel_rfl) rfl (fun f w h => h) (fun f w p1 p2 h => SB.index (n := n) (cap := cap) (i := j) (by omega) rfl (by kernel_rfl) (by kernel_rfl)),
                RS.StepE.load 50 (.agg (encS ((cur).getD (j) z38))) (by kernel_rfl) (by kernel_rfl) rfl (fun f w h => h) (fun f w p1 p2 h => (show SB _ g _ (cur) w from by have e1 : f 15 = false := p2 15 (by kernel_rfl) (by decide); have e2 : f 17 = false := p2 17 (by kernel_rfl) (by decide); have h' := h.2; simp only [e1, e2] at h'; exact h').load (i := j) (by have := HL.out; omega) rfl (by kernel_rfl)),
                RS.StepE.load 51 (.pointer (some ⟨g, (j) * 4, none⟩)) (by kernel_rfl) (by kernel_rfl) rfl (fun f w h => h) (fun f w p1 p2 h => SB.index (n := n) (cap := cap) (i := j) (by omega) rfl (by kernel_rfl) (by kernel_rfl)),
                RS.StepE.event (undef) (by intro d hd; cases hd) (by kernel_rfl) (fun f w h0 p1 p2 h => by
                  have h0 : f 15 = false := h0
                  simp only [h0] at h
                  exact SW.one (by omega) (by have := HL.out; omega) h rfl (by kernel_rfl) (by kernel_rfl)),
                RS.StepE.load 52 (.pointer (some ⟨g, (j - 1) * 4, none⟩)) (by kernel_rfl) (by kernel_rfl) rfl (fun f w h => h) (fun f w p1 p2 h => SB.index (n := n) (cap := cap) (i := j - 1) (by omega) rfl (by kernel_rfl) (by kernel_rfl)),
                RS.StepE.event (undef) (by intro d hd; cases hd) (by kernel_rfl) (fun f w h0 p1 p2 h => by
                  have h0 : f 17 = false := h0
                  simp only [h0] at h
                  exact SW.two (by have := HL.out; omega) h rfl (by kernel_rfl) (by kernel_rfl)), trivial⟩
            rintro f w2 hf hs
            simp only [hf] at hs
            have H2 := Aside0.mk (show SW w0 base g cap (swp (cur) (j) (j - 1)) w2 from hs)
            clear hf hs
            (try simp only [RS.sets, List.setIfInBounds_toArray, List.set_cons_zero, List.set_cons_succ])
            go_upto_region 5 with (fail)
            refine wp_region_lit ?_
            refine RS.seq1 (by kernel_rfl) (.int .i64 ((j : Nat) : Int)) (by kernel_rfl) ?_
            refine RS.seq1 (by kernel_rfl) (.int .i64 ((j - 1 : Nat) : Int)) (n_sub (by omega) (by omega) rfl (by kernel_rfl) (by kernel_rfl)) ?_
            refine RS.seq1 (by kernel_rfl) (.int .i64 ((j - 1 : Nat) : Int)) (by kernel_rfl) ?_
            (try simp only [Act.put, List.setIfInBounds_toArray, List.set_cons_zero, List.set_cons_succ])
            go_wp2_with fail
            exact ⟨⟨j - 1, rfl, _, HI.out.step (by rw [HA.out]; exact hja) (by have := HLT.out; rw [GX.out] at this; exact this), by rw [swp_len]; exact HL.out, H2.out⟩, by simp [intOf]; omega⟩
          · have HLT := Aside0.mk hlt
            clear hlt
            go_upto_region 4 with (fail)
            refine RS.wp_events (by kernel_rfl) [(18, .int .i64 ((j : Nat) : Int)), (19, .int .i64 ((a : Nat) : Int)), (20, .bool true), (21, .bool true), (22, .func (.func 30) #[] #[]), (23, .slice (some ⟨g, 0, none⟩) n cap), (24, .int .i64 ((j : Nat) : Int)), (25, .pointer (some ⟨g, (j) * 4, none⟩)), (26, .agg (encS ((cur).getD (j) z38))), (27, .slice (some ⟨g, 0, none⟩) n cap), (28, .int .i64 ((j : Nat) : Int)), (29, .int .i64 ((j - 1 : Nat) : Int)), (30, .pointer (some ⟨g, (j - 1) * 4, none⟩)), (31, .agg (encS ((cur).getD (j - 1) z38))), (32, .int .i64 (cmpI (cur.getD (j) z38).f1 (cur.getD (j - 1) z38).f1)), (33, .bool false), (34, .bool false)] (fun f w => SW w0 base g cap (cur) w) (by kernel_rfl) (by kernel_rfl) (fun f hf => ?_) ?_ ?_
            · exact HQ.out.drew
            · exact ⟨RS.StepE.pure 18 (by kernel_rfl) rfl (fun w => by kernel_rfl) (fun f w h => h),
                RS.StepE.pure 19 (by kernel_rfl) rfl (fun w => by kernel_rfl) (fun f w h => h),
                RS.StepE.load 20 (.bool true) (by kernel_rfl) (by kernel_rfl) rfl (fun f w h => h) (fun f w p1 p2 h => n_gtr (a := j) (b := a) (r := true) (decide_eq_true (show a < j from by omega)) rfl (by kernel_rfl) (by kernel_rfl)),
                RS.StepE.pure 21 (by kernel_rfl) rfl (fun w => by kernel_rfl) (fun f w h => h),
                RS.StepE.pure 22 (by kernel_rfl) rfl (fun w => by kernel_rfl) (fun f w h => h),
                RS.StepE.pure 23 (by kernel_rfl) rfl (fun w => by kernel_rfl) (fun f w h => h),
                RS.StepE.pure 24 (by kernel_rfl) rfl (fun w => by kernel_rfl) (fun f w h => h),
                RS.StepE.load 25 (.pointer (some ⟨g, (j) * 4, none⟩)) (by kernel_rfl) (by kernel_rfl) rfl (fun f w h => h) (fun f w p1 p2 h => SB.index (n := n) (cap := cap) (i := j) (by omega) rfl (by kernel_rfl) (by kernel_rfl)),
                RS.StepE.load 26 (.agg (encS ((cur).getD (j) z38))) (by kernel_rfl) (by kernel_rfl) rfl (fun f w h => h) (fun f w p1 p2 h => (show SB _ g _ (cur) w from by exact h.2).load (i := j) (by have := HL.out; omega) rfl (by kernel_rfl)),
                RS.StepE.pure 27 (by kernel_rfl) rfl (fun w => by kernel_rfl) (fun f w h => h),
                RS.StepE.pure 28 (by kernel_rfl) rfl (fun w => by kernel_rfl) (fun f w h => h),
                RS.StepE.load 29 (.int .i64 ((j - 1 : Nat) : Int)) (by kernel_rfl) (by kernel_rfl) rfl (fun f w h => h) (fun f w p1 p2 h => n_sub (by omega) (by omega) rfl (by kernel_rfl) (by kernel_rfl)),
                RS.StepE.load 30 (.pointer (some ⟨g, (j - 1) * 4, none⟩)) (by kernel_rfl) (by kernel_rfl) rfl (fun f w h => h) (fun f w p1 p2 h => SB.index (n := n) (cap := cap) (i := j - 1) (by omega) rfl (by kernel_rfl) (by kernel_rfl)),
                RS.StepE.load 31 (.agg (encS ((cur).getD (j - 1) z38))) (by kernel_rfl) (by kernel_rfl) rfl (fun f w h => h) (fun f w p1 p2 h => (show SB _ g _ (cur) w from by exact h.2).load (i := j - 1) (by have := HL.out; omega) rfl (by kernel_rfl)),
                RS.StepE.call 32 30 #[.agg (encS (cur.getD (j) z38)), .agg (encS (cur.getD (j - 1) z38))] (.int .i64 (cmpI (cur.getD (j) z38).f1 (cur.getD (j - 1) z38).f1)) (by kernel_rfl) (by kernel_rfl) rfl (fun w => by kernel_rfl) (fun f w h0 p1 p2 h => (cmp_calls (cur.getD (j) z38) (cur.getD (j - 1) z38) w).mono (by rintro e w' ⟨rfl, hb⟩; exact ⟨rfl, h.below hb⟩)),
                RS.StepE.load 33 (.bool false) (by kernel_rfl) (by kernel_rfl) rfl (fun f w h => h) (fun f w p1 p2 h => i_lss (a := cmpI (cur.getD (j) z38).f1 (cur.getD (j - 1) z38).f1) (b := 0) (cmp_no (HLT.out)) rfl (by kernel_rfl) (by kernel_rfl)),
                RS.StepE.pure 34 (by kernel_rfl) rfl (fun w => by kernel_rfl) (fun f w h => h), trivial⟩
            rintro f w1 hf hs
            have H1 := Aside0.mk hs
            clear hf hs
            (try simp only [RS.sets, List.setIfInBounds_toArray, List.set_cons_zero, List.set_cons_succ])
            obtain ⟨Z, hz, hc⟩ := HI.out.done HY.out (.inr (by have := HLT.out; rw [GX.out] at this; exact this))
            subst hc
            go_upto_region 2 with (fail)
            go_wp2_with fail
            exact ⟨⟨i + 1, by go_num, by omega, .inl (by omega), Z, by rw [HX.out.1]; exact hz, H1.out⟩, by simp [intOf]; omega⟩
        · go_upto_region 4 with (fail)
          refine RS.wp_events (by kernel_rfl) [(18, .int .i64 ((j : Nat) : Int)), (19, .int .i64 ((a : Nat) : Int)), (20, .bool false), (21, .bool false), (22, undef), (23, undef), (24, undef), (25, undef), (26, undef), (27, undef), (28, undef), (29, undef), (30, undef), (31, undef), (32, undef), (33, undef), (34, .bool false)] (fun f w => SW w0 base g cap (cur) w) (by kernel_rfl) (by kernel_rfl) (fun f hf => ?_) ?_ ?_
          · exact HQ.out.drew
          · exact ⟨RS.StepE.pure 18 (by kernel_rfl) rfl (fun w => by kernel_rfl) (fun f w h => h),
              RS.StepE.pure 19 (by kernel_rfl) rfl (fun w => by kernel_rfl) (fun f w h => h),
              RS.StepE.load 20 (.bool false) (by kernel_rfl) (by kernel_rfl) rfl (fun f w h => h) (fun f w p1 p2 h => n_gtr (a := j) (b := a) (r := false) (decide_eq_false (show ¬ (a < j) from by omega)) rfl (by kernel_rfl) (by kernel_rfl)),
              RS.StepE.pure 21 (by kernel_rfl) rfl (fun w => by kernel_rfl) (fun f w h => h),
              RS.StepE.off 22 (by kernel_rfl) rfl (by kernel_rfl) (fun f w h => h),
              RS.StepE.off 23 (by kernel_rfl) rfl (by kernel_rfl) (fun f w h => h),
              RS.StepE.off 24 (by kernel_rfl) rfl (by kernel_rfl) (fun f w h => h),
              RS.StepE.off 25 (by kernel_rfl) rfl (by kernel_rfl) (fun f w h => h),
              RS.StepE.off 26 (by kernel_rfl) rfl (by kernel_rfl) (fun f w h => h),
              RS.StepE.off 27 (by kernel_rfl) rfl (by kernel_rfl) (fun f w h => h),
              RS.StepE.off 28 (by kernel_rfl) rfl (by kernel_rfl) (fun f w h => h),
              RS.StepE.off 29 (by kernel_rfl) rfl (by kernel_rfl) (fun f w h => h),
              RS.StepE.off 30 (by kernel_rfl) rfl (by kernel_rfl) (fun f w h => h),
              RS.StepE.off 31 (by kernel_rfl) rfl (by kernel_rfl) (fun f w h => h),
              RS.StepE.off 32 (by kernel_rfl) rfl (by kernel_rfl) (fun f w h => h),
              RS.StepE.off 33 (by kernel_rfl) rfl (by kernel_rfl) (fun f w h => h),
              RS.StepE.pure 34 (by kernel_rfl) rfl (fun w => by kernel_rfl) (fun f w h => h), trivial⟩
          rintro f w1 hf hs
          have H1 := Aside0.mk hs
          clear hf hs
          (try simp only [RS.sets, List.setIfInBounds_toArray, List.set_cons_zero, List.set_cons_succ])
          obtain ⟨Z, hz, hc⟩ := HI.out.done HY.out (.inl (by rw [HA.out]; omega))
          subst hc
          go_upto_region 2 with (fail)
          go_wp2_with fail
          exact ⟨⟨i + 1, by go_num, by omega, .inl (by omega), Z, by rw [HX.out.1]; exact hz, H1.out⟩, by simp [intOf]; omega⟩
    · go_upto_region 1 with (fail)
      refine RS.wp_textE [(12, .int .i64 ((i : Nat) : Int)), (13, .int .i64 ((b : Nat) : Int)), (14, .bool false)] (fun f w => wr = w) (by kernel_rfl) (by kernel_rfl) (fun f hf => ?_) ?_ ?_
      · rfl
      · exact ⟨RS.StepE.pure 12 (by kernel_rfl) rfl (fun w => by kernel_rfl) (fun f w h => h),
          RS.StepE.pure 13 (by kernel_rfl) rfl (fun w => by kernel_rfl) (fun f w h => h),
          RS.StepE.load 14 (.bool false) (by kernel_rfl) (by kernel_rfl) rfl (fun f w h => h) (fun f w p1 p2 h => n_lss (a := i) (b := b) (r := false) (decide_eq_false (show ¬ (i < b) from by omega)) rfl (by kernel_rfl) (by kernel_rfl)), trivial⟩
      rintro f wx hf rfl
      clear hf
      (try simp only [RS.sets, List.setIfInBounds_toArray, List.set_cons_zero, List.set_cons_succ])
      go_wp2_with fail
      go_end0
      have hl : X.length ≤ i - a := by have := HA.out; have := HB.out; omega
      have h1 := HY.out
      have h2 := HS.out
      rw [List.take_of_length_le hl] at h1
      rw [List.drop_of_length_le hl, List.nil_append] at h2
      exact ⟨rfl, Y, h1, h2⟩
end Go.Proofs.Ytgdhciilobnelaa.B
namespace Go.Proofs.Ytgdhciilobnelaa.B
open Go.RowKit
set_option linter.unusedVariables false
set_option linter.unusedSimpArgs false
theorem srt_get {A : List S38} (h : Srt A) {i j : Nat} (hij : i ≤ j) (hj : j < A.length) : (A.getD i z38).f1 ≤ (A.getD j z38).f1 := by
  rw [List.getD_eq_getElem?_getD, List.getD_eq_getElem?_getD, List.getElem?_eq_getElem hj, List.getElem?_eq_getElem (by omega)]
  rcases Nat.lt_or_ge i j with h1 | h1
  · exact List.pairwise_iff_getElem.1 h i j (by omega) hj h1
  · obtain rfl : i = j := by omega
    exact Int.le_refl _
theorem mem_take_get {A : List S38} {n : Nat} {x : S38} (h : x ∈ A.take n) : ∃ i, i < n ∧ i < A.length ∧ A.getD i z38 = x := by
  obtain ⟨i, hi, e⟩ := List.mem_iff_getElem.1 h
  rw [List.length_take] at hi
  refine ⟨i, by omega, by omega, ?_⟩
  rw [List.getElem_take] at e
  rw [List.getD_eq_getElem?_getD, List.getElem?_eq_getElem (by omega), ← e]
  rfl
theorem mem_drop_get {A : List S38} {n : Nat} {x : S38} (h : x ∈ A.drop n) : ∃ i, n ≤ i ∧ i < A.length ∧ A.getD i z38 = x := by
  obtain ⟨i, hi, e⟩ := List.mem_iff_getElem.1 h
  rw [List.length_drop] at hi
  refine ⟨n + i, by omega, by omega, ?_⟩
  rw [List.getElem_drop] at e
  rw [List.getD_eq_getElem?_getD, List.getElem?_eq_getElem (by omega), ← e]
  rfl
theorem cross_lt {A B : List S38} {i j : Nat} (ha : Srt A) (hb : Srt B) (h : A.length ≤ i ∨ j = 0 ∨ (B.getD (j - 1) z38).f1 < (A.getD i z38).f1) (hj : j ≤ B.length) : ∀ x ∈ A.drop i, ∀ y ∈ B.take j, y.f1 < x.f1 := by
  intro x hx y hy
  obtain ⟨k, hk1, hk2, rfl⟩ := mem_drop_get hx
  obtain ⟨l, hl1, hl2, rfl⟩ := mem_take_get hy
  rcases h with h | h | h
  · omega
  · omega
  · have h1 := srt_get ha hk1 hk2
    have h2 := srt_get hb (show l ≤ j - 1 by omega) (by omega)
    omega
theorem cross_le {A B : List S38} {i j : Nat} (ha : Srt A) (hb : Srt B) (h : i = 0 ∨ B.length ≤ j ∨ ¬ (B.getD j z38).f1 < (A.getD (i - 1) z38).f1) (hi : i ≤ A.length) : ∀ x ∈ A.take i, ∀ y ∈ B.drop j, x.f1 ≤ y.f1 := by
  intro x hx y hy
  obtain ⟨k, hk1, hk2, rfl⟩ := mem_take_get hx
  obtain ⟨l, hl1, hl2, rfl⟩ := mem_drop_get hy
  rcases h with h | h | h
  · omega
  · omega
  · have h1 := srt_get ha (show k ≤ i - 1 by omega) (by omega)
    have h2 := srt_get hb hl1 hl2
    omega
theorem get_A {P A R : List S38} {i : Nat} (hi : i < A.length) : (P ++ (A ++ R)).getD (P.length + i) z38 = A.getD i z38 := by
  rw [List.getD_eq_getElem?_getD, List.getElem?_append_right (by omega), Nat.add_sub_cancel_left, List.getElem?_append_left hi, ← List.getD_eq_getElem?_getD]
theorem get_B {P A B S : List S38} {i : Nat} (hi : i < B.length) : (P ++ (A ++ (B ++ S))).getD (P.length + A.length + i) z38 = B.getD i z38 := by
  have := get_A (P := P ++ A) (R := S) hi
  rw [List.length_append, List.append_assoc] at this
  exact this
def OneI (P B1 R : List S38) (x : S38) (k : Nat) (cur : List S38) : Prop := ∃ D E, B1 = D ++ E ∧ cur = P ++ (D ++ x :: (E ++ R)) ∧ P.length + D.length = k
theorem OneI.start (P B1 R : List S38) (x : S38) : OneI P B1 R x P.length (P ++ ([x] ++ (B1 ++ R))) := ⟨[], B1, rfl, rfl, rfl⟩
theorem OneI.step {P B1 R : List S38} {x : S38} {k : Nat} {cur : List S38} (h : OneI P B1 R x k cur) (hk : k < P.length + B1.length) : OneI P B1 R x (k + 1) (swp cur k (k + 1)) := by
  obtain ⟨D, E, rfl, rfl, hd⟩ := h
  cases E with
  | nil => simp at hk; omega
  | cons y E =>
    have e := swp_next (P ++ D) (E ++ R) x y
    rw [List.length_append, hd] at e
    refine ⟨D ++ [y], E, by simp, ?_, by simp; omega⟩
    rw [show P ++ (D ++ x :: (y :: E ++ R)) = P ++ D ++ x :: y :: (E ++ R) by simp, e]
    simp
theorem OneI.len {P B1 R : List S38} {x : S38} {k : Nat} {cur : List S38} (h : OneI P B1 R x k cur) : cur.length = P.length + B1.length + 1 + R.length := by
  obtain ⟨D, E, rfl, rfl, hd⟩ := h
  simp only [List.length_append, List.length_cons]
  omega
theorem OneI.done {P B1 R : List S38} {x : S38} {k : Nat} {cur : List S38} (h : OneI P B1 R x k cur) (hk : k = P.length + B1.length) : cur = P ++ (B1 ++ x :: R) := by
  obtain ⟨D, E, rfl, rfl, hd⟩ := h
  have : E = [] := List.eq_nil_of_length_eq_zero (by rw [List.length_append] at hk; omega)
  subst this
  simp
theorem SS.one {x : S38} {B : List S38} {i : Nat} (hb : Srt B) (hi : i ≤ B.length) (h1 : i = 0 ∨ (B.getD (i - 1) z38).f1 < x.f1) (h2 : B.length ≤ i ∨ ¬ (B.getD i z38).f1 < x.f1) : SS ([x] ++ B) (B.take i ++ x :: B.drop i) := by
  have hx : Srt [x] := List.pairwise_singleton _ _
  have q1 : ∀ a ∈ [x], ∀ b ∈ B.take i, b.f1 < a.f1 := by
    have := cross_lt (A := [x]) (B := B) (i := 0) (j := i) hx hb (.inr (h1.imp id (fun h => h))) hi
    simpa using this
  have q2 : ∀ b ∈ B.drop i, x.f1 ≤ b.f1 := by
    have := cross_le (A := [x]) (B := B) (i := 1) (j := i) hx hb (.inr (h2.imp id (fun h => h))) (by simp)
    simpa using this
  have e : B = B.take i ++ B.drop i := (List.take_append_drop i B).symm
  refine ⟨?_, fun k => ?_⟩
  · rw [e] at hb
    refine srt_append (srt_left hb) (List.pairwise_cons.2 ⟨q2, srt_right hb⟩) fun a ha b hb' => ?_
    rcases List.mem_cons.1 hb' with rfl | hb'
    · exact Int.le_of_lt (q1 b (List.mem_singleton.2 rfl) a ha)
    · exact srt_cross hb a ha b hb'
  · have := fk_swap q1 k
    conv => rhs; rw [e]
    rw [show B.take i ++ x :: B.drop i = B.take i ++ [x] ++ B.drop i by simp, ← List.append_assoc]
    simp only [List.filter_append] at this ⊢
    rw [this]
theorem turn_ok {P A B S : List S38} {cur : List S38} {a m b mid st : Nat} (hc : cur = P ++ (A ++ (B ++ S))) (ha : P.length = a) (hm : P.length + A.length = m) (hb : P.length + A.length + B.length = b) (hmid : (a + b) / 2 = mid) (sa : Srt A) (sb : Srt B)
    (hst : a ≤ st ∧ st ≤ m ∧ st ≤ mid ∧ m ≤ mid + m - st ∧ mid + m - st ≤ b) (h1 : (st = a ∨ mid + m - st = b) ∨ ¬ (cur.getD (mid + m - st) z38).f1 < (cur.getD (st - 1) z38).f1)
    (h2 : (st = m ∨ st = mid) ∨ (cur.getD (mid + m - 1 - st) z38).f1 < (cur.getD st z38).f1) :
    (∀ x ∈ A.drop (st - a), ∀ y ∈ B.take (mid + m - st - m), y.f1 < x.f1) ∧ (∀ x ∈ A.take (st - a), ∀ y ∈ B.drop (mid + m - st - m), x.f1 ≤ y.f1) := by
  subst hc
  constructor
  · refine cross_lt sa sb ?_ (by omega)
    rcases h2 with (h2 | h2) | h2
    · left; omega
    · right; left; omega
    · by_cases e1 : st = m
      · left; omega
      · by_cases e2 : mid + m - st = m
        · right; left; omega
        · right; right
          have g1 := get_A (P := P) (A := A) (R := B ++ S) (i := st - a) (by omega)
          have g2 := get_B (P := P) (A := A) (B := B) (S := S) (i := mid + m - st - m - 1) (by omega)
          rw [show P.length + (st - a) = st by omega] at g1
          rw [show P.length + A.length + (mid + m - st - m - 1) = mid + m - 1 - st by omega] at g2
          rw [g1, g2] at h2
          exact h2
  · refine cross_le sa sb ?_ (by omega)
    rcases h1 with (h1 | h1) | h1
    · left; omega
    · right; left; omega
    · by_cases e1 : st = a
      · left; omega
      · by_cases e2 : mid + m - st = b
        · right; left; omega
        · right; right
          have g1 := get_A (P := P) (A := A) (R := B ++ S) (i := st - 1 - a) (by omega)
          have g2 := get_B (P := P) (A := A) (B := B) (S := S) (i := mid + m - st - m) (by omega)
          rw [show P.length + (st - 1 - a) = st - 1 by omega] at g1
          rw [show P.length + A.length + (mid + m - st - m) = mid + m - st by omega] at g2
          rw [g1, g2, show st - 1 - a = st - a - 1 by omega] at h1
          exact h1
end Go.Proofs.Ytgdhciilobnelaa.B
