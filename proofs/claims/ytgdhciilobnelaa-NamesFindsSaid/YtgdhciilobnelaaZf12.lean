/- Merging where one part is a single symbol. -/
import Derived.Test.YtgdhciilobnelaaZf11
namespace Go.Proofs.Ytgdhciilobnelaa.B
open Go.RowKit Go.Lib Go.Proofs.YtgdhciilobnelaaW.PrintWords Go.Proofs.YtgdhciilobnelaaW.PrintLast Go.Proofs.YtgdhciilobnelaaW.PrintMore Go.RF
set_option linter.unusedVariables false
set_option linter.unusedSimpArgs false
attribute [local go_sem] max2_int min2_int max_two min_two
set_option maxHeartbeats 8000000 in
set_option maxRecDepth 100000 in
theorem sym_one (base g cap n a m b : Nat) (P A B S : List S38) (w0 : World) (h : SB base g cap (P ++ (A ++ (B ++ S))) w0) (hn : (P ++ (A ++ (B ++ S))).length = n) (ha : P.length = a) (hmm : P.length + A.length = m) (hb : P.length + A.length + B.length = b) (hA : 0 < A.length) (hB : 0 < B.length) (sa : Srt A) (sb : Srt B) (hm : n ≤ 1000000) (hone : A.length = 1) :
    Calls Try.prog 43 #[.slice (some ⟨g, 0, none⟩) n cap, .int .i64 (a : Int), .int .i64 (m : Int), .int .i64 (b : Int), .func (.func 30) #[] #[]] w0 fun e w' => e = .returned (.tuple #[]) ∧ ∃ C, SS (A ++ B) C ∧ SW w0 base g cap (P ++ (C ++ S)) w' := by
  have hbn : b ≤ n := by simp only [List.length_append] at hn; omega
  have HA := Aside0.mk ha
  have HM := Aside0.mk hmm
  have HB := Aside0.mk hb
  have SA := Aside0.mk sa
  have SBB := Aside0.mk sb
  have h1 : a < m := by omega
  have h2 : m < b := by omega
  obtain ⟨cur, hcur⟩ : ∃ cur, P ++ (A ++ (B ++ S)) = cur := ⟨_, rfl⟩
  rw [hcur] at h hn
  have HC := Aside0.mk hcur
  have H := Aside0.mk h
  have HL := Aside0.mk hn
  have hma : m = a + 1 := by omega
  have hx1 : A = [A.getD 0 z38] := by
    match A, hone with
    | [x], _ => rfl
  obtain ⟨x, hx⟩ : ∃ x, A.getD 0 z38 = x := ⟨_, rfl⟩
  rw [hx] at hx1
  have hxa : cur.getD a z38 = x := by
    have := get_A (P := P) (A := A) (R := B ++ S) (i := 0) (by omega)
    rw [hcur, Nat.add_zero, ha, hx] at this
    exact this
  have HX := Aside0.mk hxa
  have HAX := Aside0.mk hx1
  clear hone hx hx1 hxa
  clear h hn ha hmm hb hA hB sa sb hcur
  go_enter Try.func43, Try.ntmps43
  go_upto_region 0 with (fail)
  refine RS.wp_textE [(25, .int .i64 ((m : Nat) : Int)), (26, .int .i64 ((a : Nat) : Int)), (27, .int .i64 ((m - a : Nat) : Int)), (28, .bool true)] (fun f w => w0 = w) (by kernel_rfl) (by kernel_rfl) (fun f hf => ?_) ?_ ?_
  · rfl
  · exact ⟨RS.StepE.pure 25 (by kernel_rfl) rfl (fun w => by kernel_rfl) (fun f w h => h),
      RS.StepE.pure 26 (by kernel_rfl) rfl (fun w => by kernel_rfl) (fun f w h => h),
      RS.StepE.load 27 (.int .i64 ((m - a : Nat) : Int)) (by kernel_rfl) (by kernel_rfl) rfl (fun f w h => h) (fun f w p1 p2 h => n_sub (by omega) (by omega) rfl (by kernel_rfl) (by kernel_rfl)),
      RS.StepE.load 28 (.bool true) (by kernel_rfl) (by kernel_rfl) rfl (fun f w h => h) (fun f w p1 p2 h => n_eql (a := m - a) (b := 1) (r := true) (decide_eq_true (show m - a = 1 from by omega)) rfl (by kernel_rfl) (by kernel_rfl)), trivial⟩
  rintro f wx hf rfl
  clear hf
  (try simp only [RS.sets, List.setIfInBounds_toArray, List.set_cons_zero, List.set_cons_succ])
  go_upto_region 1 with (fail)
  refine RS.wp_textE [(29, .int .i64 ((m : Nat) : Int)), (10, .int .i64 ((m : Nat) : Int))] (fun f w => w0 = w) (by kernel_rfl) (by kernel_rfl) (fun f hf => ?_) ?_ ?_
  · rfl
  · exact ⟨RS.StepE.pure 29 (by kernel_rfl) rfl (fun w => by kernel_rfl) (fun f w h => h),
      RS.StepE.pure 10 (by kernel_rfl) rfl (fun w => by kernel_rfl) (fun f w h => h), trivial⟩
  rintro f wx hf rfl
  clear hf
  (try simp only [RS.sets, List.setIfInBounds_toArray, List.set_cons_zero, List.set_cons_succ])
  go_upto_region 2 with (fail)
  refine RS.wp_textE [(30, .int .i64 ((b : Nat) : Int)), (11, .int .i64 ((b : Nat) : Int))] (fun f w => w0 = w) (by kernel_rfl) (by kernel_rfl) (fun f hf => ?_) ?_ ?_
  · rfl
  · exact ⟨RS.StepE.pure 30 (by kernel_rfl) rfl (fun w => by kernel_rfl) (fun f w h => h),
      RS.StepE.pure 11 (by kernel_rfl) rfl (fun w => by kernel_rfl) (fun f w h => h), trivial⟩
  rintro f wx hf rfl
  clear hf
  (try simp only [RS.sets, List.setIfInBounds_toArray, List.set_cons_zero, List.set_cons_succ])
  go_upto_region 3 with (fail)
  go_loopw [10, 11] (fun t u wr => ∃ i j : Nat, t = .int .i64 (i : Int) ∧ u = .int .i64 (j : Int) ∧ m ≤ i ∧ i ≤ j ∧ j ≤ b ∧ (i = m ∨ (cur.getD (i - 1) z38).f1 < x.f1) ∧ (j = b ∨ ¬ (cur.getD j z38).f1 < x.f1) ∧ SW w0 base g cap cur wr) (fun t u _ => (intOf u - intOf t).toNat)
  case atStart => exact ⟨m, b, rfl, rfl, Nat.le_refl _, Nat.le_of_lt h2, Nat.le_refl _, .inl rfl, .inl rfl, SW.start H.out⟩
  case round =>
    obtain ⟨i, j, rfl, rfl, hi, hij, hj, q1, q2, hs⟩ := hrel
    have HS := Aside0.mk hs
    have Q1 := Aside0.mk q1
    have Q2 := Aside0.mk q2
    clear hs q1 q2
    by_cases hlt : i < j
    · go_upto_region 3 with (fail)
      refine RS.wp_textE [(31, .int .i64 ((i : Nat) : Int)), (32, .int .i64 ((j : Nat) : Int)), (33, .bool true)] (fun f w => wr = w) (by kernel_rfl) (by kernel_rfl) (fun f hf => ?_) ?_ ?_
      · rfl
      · exact ⟨RS.StepE.pure 31 (by kernel_rfl) rfl (fun w => by kernel_rfl) (fun f w h => h),
          RS.StepE.pure 32 (by kernel_rfl) rfl (fun w => by kernel_rfl) (fun f w h => h),
          RS.StepE.load 33 (.bool true) (by kernel_rfl) (by kernel_rfl) rfl (fun f w h => h) (fun f w p1 p2 h => n_lss (a := i) (b := j) (r := true) (decide_eq_true (show i < j from by omega)) rfl (by kernel_rfl) (by kernel_rfl)), trivial⟩
      rintro f wx hf rfl
      clear hf
      (try simp only [RS.sets, List.setIfInBounds_toArray, List.set_cons_zero, List.set_cons_succ])
      go_upto_region 4 with (fail)
      refine RS.wp_textE [(34, .int .i64 ((i : Nat) : Int)), (35, .int .i64 ((j : Nat) : Int)), (36, .int .i64 ((i + j : Nat) : Int)), (37, .int .u64 ((i + j : Nat) : Int)), (38, .int .u64 (((i + j) / 2 : Nat) : Int)), (39, .int .i64 (((i + j) / 2 : Nat) : Int)), (12, .int .i64 (((i + j) / 2 : Nat) : Int))] (fun f w => wr = w) (by kernel_rfl) (by kernel_rfl) (fun f hf => ?_) ?_ ?_
      · rfl
      · exact ⟨RS.StepE.pure 34 (by kernel_rfl) rfl (fun w => by kernel_rfl) (fun f w h => h),
          RS.StepE.pure 35 (by kernel_rfl) rfl (fun w => by kernel_rfl) (fun f w h => h),
          RS.StepE.load 36 (.int .i64 ((i + j : Nat) : Int)) (by kernel_rfl) (by kernel_rfl) rfl (fun f w h => h) (fun f w p1 p2 h => n_add (by omega) rfl (by kernel_rfl) (by kernel_rfl)),
          RS.StepE.load 37 (.int .u64 ((i + j : Nat) : Int)) (by kernel_rfl) (by kernel_rfl) rfl (fun f w h => h) (fun f w p1 p2 h => n_conv (by omega) Try.underlying3 Try.underlying81 rfl (by kernel_rfl)),
          RS.StepE.load 38 (.int .u64 (((i + j) / 2 : Nat) : Int)) (by kernel_rfl) (by kernel_rfl) rfl (fun f w h => h) (fun f w p1 p2 h => n_shr (by omega) rfl (by kernel_rfl) (by kernel_rfl)),
          RS.StepE.load 39 (.int .i64 (((i + j) / 2 : Nat) : Int)) (by kernel_rfl) (by kernel_rfl) rfl (fun f w h => h) (fun f w p1 p2 h => n_back (by omega) Try.underlying81 Try.underlying3 rfl (by kernel_rfl)),
          RS.StepE.pure 12 (by kernel_rfl) rfl (fun w => by kernel_rfl) (fun f w h => h), trivial⟩
      rintro f wx hf rfl
      clear hf
      (try simp only [RS.sets, List.setIfInBounds_toArray, List.set_cons_zero, List.set_cons_succ])
      by_cases hc : (cur.getD ((i + j) / 2) z38).f1 < (cur.getD (a) z38).f1
      · have HC2 := Aside0.mk hc
        clear hc
        go_upto_region 5 with (fail)
        refine RS.wp_events (by kernel_rfl) [(40, .func (.func 30) #[] #[]), (41, .slice (some ⟨g, 0, none⟩) n cap), (42, .int .i64 (((i + j) / 2 : Nat) : Int)), (43, .pointer (some ⟨g, ((i + j) / 2) * 4, none⟩)), (44, .agg (encS ((cur).getD ((i + j) / 2) z38))), (45, .slice (some ⟨g, 0, none⟩) n cap), (46, .int .i64 ((a : Nat) : Int)), (47, .pointer (some ⟨g, (a) * 4, none⟩)), (48, .agg (encS ((cur).getD (a) z38))), (49, .int .i64 (cmpI (cur.getD ((i + j) / 2) z38).f1 (cur.getD (a) z38).f1)), (50, .bool true)] (fun f w => SW w0 base g cap (cur) w) (by kernel_rfl) (by kernel_rfl) (fun f hf => ?_) ?_ ?_
        · exact HS.out.drew
        · exact ⟨RS.StepE.pure 40 (by kernel_rfl) rfl (fun w => by kernel_rfl) (fun f w h => h),
            RS.StepE.pure 41 (by kernel_rfl) rfl (fun w => by kernel_rfl) (fun f w h => h),
            RS.StepE.pure 42 (by kernel_rfl) rfl (fun w => by kernel_rfl) (fun f w h => h),
            RS.StepE.load 43 (.pointer (some ⟨g, ((i + j) / 2) * 4, none⟩)) (by kernel_rfl) (by kernel_rfl) rfl (fun f w h => h) (fun f w p1 p2 h => SB.index (n := n) (cap := cap) (i := (i + j) / 2) (by omega) rfl (by kernel_rfl) (by kernel_rfl)),
            RS.StepE.load 44 (.agg (encS ((cur).getD ((i + j) / 2) z38))) (by kernel_rfl) (by kernel_rfl) rfl (fun f w h => h) (fun f w p1 p2 h => (show SB _ g _ (cur) w from by exact h.2).load (i := (i + j) / 2) (by have := HL.out; omega) rfl (by kernel_rfl)),
            RS.StepE.pure 45 (by kernel_rfl) rfl (fun w => by kernel_rfl) (fun f w h => h),
            RS.StepE.pure 46 (by kernel_rfl) rfl (fun w => by kernel_rfl) (fun f w h => h),
            RS.StepE.load 47 (.pointer (some ⟨g, (a) * 4, none⟩)) (by kernel_rfl) (by kernel_rfl) rfl (fun f w h => h) (fun f w p1 p2 h => SB.index (n := n) (cap := cap) (i := a) (by omega) rfl (by kernel_rfl) (by kernel_rfl)),
            RS.StepE.load 48 (.agg (encS ((cur).getD (a) z38))) (by kernel_rfl) (by kernel_rfl) rfl (fun f w h => h) (fun f w p1 p2 h => (show SB _ g _ (cur) w from by exact h.2).load (i := a) (by have := HL.out; omega) rfl (by kernel_rfl)),
            RS.StepE.call 49 30 #[.agg (encS (cur.getD ((i + j) / 2) z38)), .agg (encS (cur.getD (a) z38))] (.int .i64 (cmpI (cur.getD ((i + j) / 2) z38).f1 (cur.getD (a) z38).f1)) (by kernel_rfl) (by kernel_rfl) rfl (fun w => by kernel_rfl) (fun f w h0 p1 p2 h => (cmp_calls (cur.getD ((i + j) / 2) z38) (cur.getD (a) z38) w).mono (by rintro e w' ⟨rfl, hb⟩; exact ⟨rfl, h.below hb⟩)),
            RS.StepE.load 50 (.bool true) (by kernel_rfl) (by kernel_rfl) rfl (fun f w h => h) (fun f w p1 p2 h => i_lss (a := cmpI (cur.getD ((i + j) / 2) z38).f1 (cur.getD (a) z38).f1) (b := 0) (cmp_yes (HC2.out)) rfl (by kernel_rfl) (by kernel_rfl)), trivial⟩
        rintro f w1 hf hs
        have H1 := Aside0.mk hs
        clear hf hs
        (try simp only [RS.sets, List.setIfInBounds_toArray, List.set_cons_zero, List.set_cons_succ])
        go_upto_region 6 with (fail)
        refine RS.wp_textE [(51, .int .i64 (((i + j) / 2 : Nat) : Int)), (52, .int .i64 (((i + j) / 2 + 1 : Nat) : Int)), (10, .int .i64 (((i + j) / 2 + 1 : Nat) : Int))] (fun f w => w1 = w) (by kernel_rfl) (by kernel_rfl) (fun f hf => ?_) ?_ ?_
        · rfl
        · exact ⟨RS.StepE.pure 51 (by kernel_rfl) rfl (fun w => by kernel_rfl) (fun f w h => h),
            RS.StepE.load 52 (.int .i64 (((i + j) / 2 + 1 : Nat) : Int)) (by kernel_rfl) (by kernel_rfl) rfl (fun f w h => h) (fun f w p1 p2 h => n_add (by omega) rfl (by kernel_rfl) (by kernel_rfl)),
            RS.StepE.pure 10 (by kernel_rfl) rfl (fun w => by kernel_rfl) (fun f w h => h), trivial⟩
        rintro f wx hf rfl
        clear hf
        (try simp only [RS.sets, List.setIfInBounds_toArray, List.set_cons_zero, List.set_cons_succ])
        go_wp2_with fail
        exact ⟨⟨(i + j) / 2 + 1, j, rfl, rfl, by omega, by omega, hj, .inr (by have := HC2.out; rw [HX.out] at this; exact this), Q2.out, H1.out⟩, by simp [intOf]; omega⟩
      · have HC2 := Aside0.mk hc
        clear hc
        go_upto_region 5 with (fail)
        refine RS.wp_events (by kernel_rfl) [(40, .func (.func 30) #[] #[]), (41, .slice (some ⟨g, 0, none⟩) n cap), (42, .int .i64 (((i + j) / 2 : Nat) : Int)), (43, .pointer (some ⟨g, ((i + j) / 2) * 4, none⟩)), (44, .agg (encS ((cur).getD ((i + j) / 2) z38))), (45, .slice (some ⟨g, 0, none⟩) n cap), (46, .int .i64 ((a : Nat) : Int)), (47, .pointer (some ⟨g, (a) * 4, none⟩)), (48, .agg (encS ((cur).getD (a) z38))), (49, .int .i64 (cmpI (cur.getD ((i + j) / 2) z38).f1 (cur.getD (a) z38).f1)), (50, .bool false)] (fun f w => SW w0 base g cap (cur) w) (by kernel_rfl) (by kernel_rfl) (fun f hf => ?_) ?_ ?_
        · exact HS.out.drew
        · exact ⟨RS.StepE.pure 40 (by kernel_rfl) rfl (fun w => by kernel_rfl) (fun f w h => h),
            RS.StepE.pure 41 (by kernel_rfl) rfl (fun w => by kernel_rfl) (fun f w h => h),
            RS.StepE.pure 42 (by kernel_rfl) rfl (fun w => by kernel_rfl) (fun f w h => h),
            RS.StepE.load 43 (.pointer (some ⟨g, ((i + j) / 2) * 4, none⟩)) (by kernel_rfl) (by kernel_rfl) rfl (fun f w h => h) (fun f w p1 p2 h => SB.index (n := n) (cap := cap) (i := (i + j) / 2) (by omega) rfl (by kernel_rfl) (by kernel_rfl)),
            RS.StepE.load 44 (.agg (encS ((cur).getD ((i + j) / 2) z38))) (by kernel_rfl) (by kernel_rfl) rfl (fun f w h => h) (fun f w p1 p2 h => (show SB _ g _ (cur) w from by exact h.2).load (i := (i + j) / 2) (by have := HL.out; omega) rfl (by kernel_rfl)),
            RS.StepE.pure 45 (by kernel_rfl) rfl (fun w => by kernel_rfl) (fun f w h => h),
            RS.StepE.pure 46 (by kernel_rfl) rfl (fun w => by kernel_rfl) (fun f w h => h),
            RS.StepE.load 47 (.pointer (some ⟨g, (a) * 4, none⟩)) (by kernel_rfl) (by kernel_rfl) rfl (fun f w h => h) (fun f w p1 p2 h => SB.index (n := n) (cap := cap) (i := a) (by omega) rfl (by kernel_rfl) (by kernel_rfl)),
            RS.StepE.load 48 (.agg (encS ((cur).getD (a) z38))) (by kernel_rfl) (by kernel_rfl) rfl (fun f w h => h) (fun f w p1 p2 h => (show SB _ g _ (cur) w from by exact h.2).load (i := a) (by have := HL.out; omega) rfl (by kernel_rfl)),
            RS.StepE.call 49 30 #[.agg (encS (cur.getD ((i + j) / 2) z38)), .agg (encS (cur.getD (a) z38))] (.int .i64 (cmpI (cur.getD ((i + j) / 2) z38).f1 (cur.getD (a) z38).f1)) (by kernel_rfl) (by kernel_rfl) rfl (fun w => by kernel_rfl) (fun f w h0 p1 p2 h => (cmp_calls (cur.getD ((i + j) / 2) z38) (cur.getD (a) z38) w).mono (by rintro e w' ⟨rfl, hb⟩; exact ⟨rfl, h.below hb⟩)),
            RS.StepE.load 50 (.bool false) (by kernel_rfl) (by kernel_rfl) rfl (fun f w h => h) (fun f w p1 p2 h => i_lss (a := cmpI (cur.getD ((i + j) / 2) z38).f1 (cur.getD (a) z38).f1) (b := 0) (cmp_no (HC2.out)) rfl (by kernel_rfl) (by kernel_rfl)), trivial⟩
        rintro f w1 hf hs
        have H1 := Aside0.mk hs
        clear hf hs
        (try simp only [RS.sets, List.setIfInBounds_toArray, List.set_cons_zero, List.set_cons_succ])
        go_upto_region 7 with (fail)
        refine RS.wp_textE [(53, .int .i64 (((i + j) / 2 : Nat) : Int)), (11, .int .i64 (((i + j) / 2 : Nat) : Int))] (fun f w => w1 = w) (by kernel_rfl) (by kernel_rfl) (fun f hf => ?_) ?_ ?_
        · rfl
        · exact ⟨RS.StepE.pure 53 (by kernel_rfl) rfl (fun w => by kernel_rfl) (fun f w h => h),
            RS.StepE.pure 11 (by kernel_rfl) rfl (fun w => by kernel_rfl) (fun f w h => h), trivial⟩
        rintro f wx hf rfl
        clear hf
        (try simp only [RS.sets, List.setIfInBounds_toArray, List.set_cons_zero, List.set_cons_succ])
        go_wp2_with fail
        exact ⟨⟨i, (i + j) / 2, rfl, rfl, hi, by omega, by omega, Q1.out, .inr (by have := HC2.out; rw [HX.out] at this; exact this), H1.out⟩, by simp [intOf]; omega⟩
    · have hie : j = i := by omega
      subst hie
      go_upto_region 3 with (fail)
      refine RS.wp_textE [(31, .int .i64 ((j : Nat) : Int)), (32, .int .i64 ((j : Nat) : Int)), (33, .bool false)] (fun f w => wr = w) (by kernel_rfl) (by kernel_rfl) (fun f hf => ?_) ?_ ?_
      · rfl
      · exact ⟨RS.StepE.pure 31 (by kernel_rfl) rfl (fun w => by kernel_rfl) (fun f w h => h),
          RS.StepE.pure 32 (by kernel_rfl) rfl (fun w => by kernel_rfl) (fun f w h => h),
          RS.StepE.load 33 (.bool false) (by kernel_rfl) (by kernel_rfl) rfl (fun f w h => h) (fun f w p1 p2 h => n_lss (a := j) (b := j) (r := false) (decide_eq_false (show ¬ (j < j) from by omega)) rfl (by kernel_rfl) (by kernel_rfl)), trivial⟩
      rintro f wx hf rfl
      clear hf
      (try simp only [RS.sets, List.setIfInBounds_toArray, List.set_cons_zero, List.set_cons_succ])
      go_upto_region 8 with (fail)
      refine RS.wp_textE [(54, .int .i64 ((a : Nat) : Int)), (13, .int .i64 ((a : Nat) : Int))] (fun f w => wr = w) (by kernel_rfl) (by kernel_rfl) (fun f hf => ?_) ?_ ?_
      · rfl
      · exact ⟨RS.StepE.pure 54 (by kernel_rfl) rfl (fun w => by kernel_rfl) (fun f w h => h),
          RS.StepE.pure 13 (by kernel_rfl) rfl (fun w => by kernel_rfl) (fun f w h => h), trivial⟩
      rintro f wx hf rfl
      clear hf
      (try simp only [RS.sets, List.setIfInBounds_toArray, List.set_cons_zero, List.set_cons_succ])
      have hq1 : (cur.getD (j - 1) z38) = B.getD (j - m - 1) z38 ∨ j = m := by
        by_cases e : j = m
        · exact .inr e
        · left
          have := get_B (P := P) (A := A) (B := B) (S := S) (i := j - m - 1) (by have := HB.out; have := HM.out; omega)
          rw [HC.out, HM.out, show m + (j - m - 1) = j - 1 by omega] at this
          exact this
      have hq2 : (cur.getD j z38) = B.getD (j - m) z38 ∨ j = b := by
        by_cases e : j = b
        · exact .inr e
        · left
          have := get_B (P := P) (A := A) (B := B) (S := S) (i := j - m) (by have := HB.out; have := HM.out; omega)
          rw [HC.out, HM.out, show m + (j - m) = j by omega] at this
          exact this
      have HSS := Aside0.mk (SS.one (x := x) (B := B) (i := j - m) SBB.out (by have := HB.out; have := HM.out; omega)
        (by rcases hq1 with e | e
            · rcases Q1.out with q | q
              · left; omega
              · right; rw [← e]; exact q
            · left; omega)
        (by rcases hq2 with e | e
            · rcases Q2.out with q | q
              · left; have := HB.out; have := HM.out; omega
              · right; rw [← e]; exact q
            · left; have := HB.out; have := HM.out; omega))
      have HO := Aside0.mk (OneI.start P (B.take (j - m)) (B.drop (j - m) ++ S) x)
      rw [show P ++ ([x] ++ (B.take (j - m) ++ (B.drop (j - m) ++ S))) = cur by rw [← HC.out, ← List.append_assoc (B.take _), List.take_append_drop, HAX.out], HA.out] at HO
      have hbl : (B.take (j - m)).length = j - m := by rw [List.length_take]; have := HB.out; have := HM.out; omega
      have HBL := Aside0.mk hbl
      clear hq1 hq2 hbl
      go_upto_region 9 with (fail)
      go_loopw [13] (fun t wq => ∃ k : Nat, t = .int .i64 (k : Int) ∧ k ≤ j - 1 ∧ ∃ c2, OneI P (B.take (j - m)) (B.drop (j - m) ++ S) x k c2 ∧ c2.length = n ∧ SW w0 base g cap c2 wq) (fun t _ => (((j - 1 : Nat) : Int) - intOf t).toNat)
      case atStart => exact ⟨a, rfl, by omega, cur, HO.out, HL.out, HS.out⟩
      case round =>
        obtain ⟨k, rfl, hk, c2, ho, hl, hs⟩ := hrel
        have HQ := Aside0.mk hs
        have HO2 := Aside0.mk ho
        have HL2 := Aside0.mk hl
        clear hs ho hl
        by_cases hlt2 : k < j - 1
        · go_upto_region 9 with (fail)
          refine RS.wp_textE [(55, .int .i64 ((k : Nat) : Int)), (56, .int .i64 ((j : Nat) : Int)), (57, .int .i64 ((j - 1 : Nat) : Int)), (58, .bool true)] (fun f w => wr = w) (by kernel_rfl) (by kernel_rfl) (fun f hf => ?_) ?_ ?_
          · rfl
          · exact ⟨RS.StepE.pure 55 (by kernel_rfl) rfl (fun w => by kernel_rfl) (fun f w h => h),
              RS.StepE.pure 56 (by kernel_rfl) rfl (fun w => by kernel_rfl) (fun f w h => h),
              RS.StepE.load 57 (.int .i64 ((j - 1 : Nat) : Int)) (by kernel_rfl) (by kernel_rfl) rfl (fun f w h => h) (fun f w p1 p2 h => n_sub (by omega) (by omega) rfl (by kernel_rfl) (by kernel_rfl)),
              RS.StepE.load 58 (.bool true) (by kernel_rfl) (by kernel_rfl) rfl (fun f w h => h) (fun f w p1 p2 h => n_lss (a := k) (b := j - 1) (r := true) (decide_eq_true (show k < j - 1 from by omega)) rfl (by kernel_rfl) (by kernel_rfl)), trivial⟩
          rintro f wx hf rfl
          clear hf
          (try simp only [RS.sets, List.setIfInBounds_toArray, List.set_cons_zero, List.set_cons_succ])
          go_upto_region 11 with (fail)
          refine RS.wp_events (by kernel_rfl) [(61, .slice (some ⟨g, 0, none⟩) n cap), (62, .int .i64 ((k : Nat) : Int)), (63, .slice (some ⟨g, 0, none⟩) n cap), (64, .int .i64 ((k : Nat) : Int)), (65, .int .i64 ((k + 1 : Nat) : Int)), (66, .slice (some ⟨g, 0, none⟩) n cap), (67, .int .i64 ((k : Nat) : Int)), (68, .int .i64 ((k + 1 : Nat) : Int)), (69, .pointer (some ⟨g, (k + 1) * 4, none⟩)), (70, .agg (encS ((c2).getD (k + 1) z38))), (71, .slice (some ⟨g, 0, none⟩) n cap), (72, .int .i64 ((k : Nat) : Int)), (73, .pointer (some ⟨g, (k) * 4, none⟩)), (74, .agg (encS ((c2).getD (k) z38))), (75, .pointer (some ⟨g, (k) * 4, none⟩)), (76, .pointer (some ⟨g, (k + 1) * 4, none⟩))] (fun f w => SW w0 base g cap (swS (c2) (k) (k + 1) (f 15) (f 17)) w) (by kernel_rfl) (by kernel_rfl) (fun f hf => ?_) ?_ ?_
          · simp only [hf 15 (by decide), hf 17 (by decide)]
            exact HQ.out.drew
          · exact ⟨RS.StepE.pure 61 (by kernel_rfl) rfl (fun w => by kernel_rfl) (fun f w h => h),
              RS.StepE.pure 62 (by kernel_rfl) rfl (fun w => by kernel_rfl) (fun f w h => h),
              RS.StepE.pure 63 (by kernel_rfl) rfl (fun w => by kernel_rfl) (fun f w h => h),
              RS.StepE.pure 64 (by kernel_rfl) rfl (fun w => by kernel_rfl) (fun f w h => h),
              RS.StepE.load 65 (.int .i64 ((k + 1 : Nat) : Int)) (by kernel_rfl) (by kernel_rfl) rfl (fun f w h => h) (fun f w p1 p2 h => n_add (by omega) rfl (by kernel_rfl) (by kernel_rfl)),
              RS.StepE.pure 66 (by kernel_rfl) rfl (fun w => by kernel_rfl) (fun f w h => h),
              RS.StepE.pure 67 (by kernel_rfl) rfl (fun w => by kernel_rfl) (fun f w h => h),
              RS.StepE.load 68 (.int .i64 ((k + 1 : Nat) : Int)) (by kernel_rfl) (by kernel_rfl) rfl (fun f w h => h) (fun f w p1 p2 h => n_add (by omega) rfl (by kernel_rfl) (by kernel_rfl)),
              RS.StepE.load 69 (.pointer (some ⟨g, (k + 1) * 4, none⟩)) (by kernel_rfl) (by kernel_rfl) rfl (fun f w h => h) (fun f w p1 p2 h => SB.index (n := n) (cap := cap) (i := k + 1) (by omega) rfl (by kernel_rfl) (by kernel_rfl)),
              RS.StepE.load 70 (.agg (encS ((c2).getD (k + 1) z38))) (by kernel_rfl) (by kernel_rfl) rfl (fun f w h => h) (fun f w p1 p2 h => (show SB _ g _ (c2) w from by have e1 : f 15 = false := p2 15 (by kernel_rfl) (by decide); have e2 : f 17 = false := p2 17 (by kernel_rfl) (by decide); have h' := h.2; simp only [e1, e2] at h'; exact h').load (i := k + 1) (by have := HL2.out; omega) rfl (by kernel_rfl)),
              RS.StepE.pure 71 (by kernel_rfl) rfl (fun w => by kernel_rfl) (fun f w h => h),
              RS.StepE.pure 72 (by kernel_rfl) rfl (fun w => by kernel_rfl) (fun f w h => h),
              RS.StepE.load 73 (.pointer (some ⟨g, (k) * 4, none⟩)) (by kernel_rfl) (by kernel_rfl) rfl (fun f w h => h) (fun f w p1 p2 h => SB.index (n := n) (cap := cap) (i := k) (by omega) rfl (by kernel_rfl) (by kernel_rfl)),
              RS.StepE.load 74 (.agg (encS ((c2).getD (k) z38))) (by kernel_rfl) (by kernel_rfl) rfl (fun f w h => h) (fun f w p1 p2 h => (show SB _ g _ (c2) w from by have e1 : f 15 = false := p2 15 (by kernel_rfl) (by decide); have e2 : f 17 = false := p2 17 (by kernel_rfl) (by decide); have h' := h.2; simp only [e1, e2] at h'; exact h').load (i := k) (by have := HL2.out; omega) rfl (by kernel_rfl)),
              RS.StepE.load 75 (.pointer (some ⟨g, (k) * 4, none⟩)) (by kernel_rfl) (by kernel_rfl) rfl (fun f w h => h) (fun f w p1 p2 h => SB.index (n := n) (cap := cap) (i := k) (by omega) rfl (by kernel_rfl) (by kernel_rfl)),
              RS.StepE.event (undef) (by intro d hd; cases hd) (by kernel_rfl) (fun f w h0 p1 p2 h => by
                have h0 : f 15 = false := h0
                simp only [h0] at h
                exact SW.one (by omega) (by have := HL2.out; omega) h rfl (by kernel_rfl) (by kernel_rfl)),
              RS.StepE.load 76 (.pointer (some ⟨g, (k + 1) * 4, none⟩)) (by kernel_rfl) (by kernel_rfl) rfl (fun f w h => h) (fun f w p1 p2 h => SB.index (n := n) (cap := cap) (i := k + 1) (by omega) rfl (by kernel_rfl) (by kernel_rfl)),
              RS.StepE.event (undef) (by intro d hd; cases hd) (by kernel_rfl) (fun f w h0 p1 p2 h => by
                have h0 : f 17 = false := h0
                simp only [h0] at h
                exact SW.two (by have := HL2.out; omega) h rfl (by kernel_rfl) (by kernel_rfl)), trivial⟩
          rintro f w2 hf hs
          simp only [hf] at hs
          have H2 := Aside0.mk (show SW w0 base g cap (swp (c2) (k) (k + 1)) w2 from hs)
          clear hf hs
          (try simp only [RS.sets, List.setIfInBounds_toArray, List.set_cons_zero, List.set_cons_succ])
          go_upto_region 10 with (fail)
          refine wp_region_lit ?_
          refine RS.seq1 (by kernel_rfl) (.int .i64 ((k : Nat) : Int)) (by kernel_rfl) ?_
          refine RS.seq1 (by kernel_rfl) (.int .i64 ((k + 1 : Nat) : Int)) (n_add (by omega) rfl (by kernel_rfl) (by kernel_rfl)) ?_
          refine RS.seq1 (by kernel_rfl) (.int .i64 ((k + 1 : Nat) : Int)) (by kernel_rfl) ?_
          (try simp only [Act.put, List.setIfInBounds_toArray, List.set_cons_zero, List.set_cons_succ])
          go_wp2_with fail
          exact ⟨⟨k + 1, rfl, by omega, _, HO2.out.step (by rw [HA.out, HBL.out]; omega), by rw [swp_len]; exact HL2.out, H2.out⟩, by simp [intOf]; omega⟩
        · go_upto_region 9 with (fail)
          refine RS.wp_textE [(55, .int .i64 ((k : Nat) : Int)), (56, .int .i64 ((j : Nat) : Int)), (57, .int .i64 ((j - 1 : Nat) : Int)), (58, .bool false)] (fun f w => wr = w) (by kernel_rfl) (by kernel_rfl) (fun f hf => ?_) ?_ ?_
          · rfl
          · exact ⟨RS.StepE.pure 55 (by kernel_rfl) rfl (fun w => by kernel_rfl) (fun f w h => h),
              RS.StepE.pure 56 (by kernel_rfl) rfl (fun w => by kernel_rfl) (fun f w h => h),
              RS.StepE.load 57 (.int .i64 ((j - 1 : Nat) : Int)) (by kernel_rfl) (by kernel_rfl) rfl (fun f w h => h) (fun f w p1 p2 h => n_sub (by omega) (by omega) rfl (by kernel_rfl) (by kernel_rfl)),
              RS.StepE.load 58 (.bool false) (by kernel_rfl) (by kernel_rfl) rfl (fun f w h => h) (fun f w p1 p2 h => n_lss (a := k) (b := j - 1) (r := false) (decide_eq_false (show ¬ (k < j - 1) from by omega)) rfl (by kernel_rfl) (by kernel_rfl)), trivial⟩
          rintro f wx hf rfl
          clear hf
          (try simp only [RS.sets, List.setIfInBounds_toArray, List.set_cons_zero, List.set_cons_succ])
          go_wp2_with fail
          first | go_end0 | (refine bodyPost_ret (results_none rfl _ _ _) rfl ?_)
          have hc := HO2.out.done (by rw [HA.out, HBL.out]; omega)
          have h5 := HQ.out
          rw [hc] at h5
          refine ⟨rfl, _, by rw [HAX.out]; exact HSS.out, ?_⟩
          rw [List.append_assoc]
          exact h5
set_option maxHeartbeats 8000000 in
set_option maxRecDepth 100000 in
theorem sym_last (base g cap n a m b : Nat) (P A B S : List S38) (w0 : World) (h : SB base g cap (P ++ (A ++ (B ++ S))) w0) (hn : (P ++ (A ++ (B ++ S))).length = n) (ha : P.length = a) (hmm : P.length + A.length = m) (hb : P.length + A.length + B.length = b) (hA : 0 < A.length) (hB : 0 < B.length) (sa : Srt A) (sb : Srt B) (hm : n ≤ 1000000) (hone : A.length ≠ 1) (hlast : B.length = 1) :
    Calls Try.prog 43 #[.slice (some ⟨g, 0, none⟩) n cap, .int .i64 (a : Int), .int .i64 (m : Int), .int .i64 (b : Int), .func (.func 30) #[] #[]] w0 fun e w' => e = .returned (.tuple #[]) ∧ ∃ C, SS (A ++ B) C ∧ SW w0 base g cap (P ++ (C ++ S)) w' := by
  have hbn : b ≤ n := by simp only [List.length_append] at hn; omega
  have HA := Aside0.mk ha
  have HM := Aside0.mk hmm
  have HB := Aside0.mk hb
  have SA := Aside0.mk sa
  have SBB := Aside0.mk sb
  have h1 : a < m := by omega
  have h2 : m < b := by omega
  obtain ⟨cur, hcur⟩ : ∃ cur, P ++ (A ++ (B ++ S)) = cur := ⟨_, rfl⟩
  rw [hcur] at h hn
  have HC := Aside0.mk hcur
  have H := Aside0.mk h
  have HL := Aside0.mk hn
  have hma : m ≠ a + 1 := by omega
  have hmb : b = m + 1 := by omega
  have hx1 : B = [B.getD 0 z38] := by
    match B, hlast with
    | [x], _ => rfl
  obtain ⟨x, hx⟩ : ∃ x, B.getD 0 z38 = x := ⟨_, rfl⟩
  rw [hx] at hx1
  have hxa : cur.getD m z38 = x := by
    have := get_B (P := P) (A := A) (B := B) (S := S) (i := 0) (by omega)
    rw [hcur, Nat.add_zero, hmm, hx] at this
    exact this
  have HX := Aside0.mk hxa
  have HAX := Aside0.mk hx1
  clear hone hx hx1 hxa hlast
  clear h hn ha hmm hb hA hB sa sb hcur
  go_enter Try.func43, Try.ntmps43
  go_upto_region 0 with (fail)
  refine RS.wp_textE [(25, .int .i64 ((m : Nat) : Int)), (26, .int .i64 ((a : Nat) : Int)), (27, .int .i64 ((m - a : Nat) : Int)), (28, .bool false)] (fun f w => w0 = w) (by kernel_rfl) (by kernel_rfl) (fun f hf => ?_) ?_ ?_
  · rfl
  · exact ⟨RS.StepE.pure 25 (by kernel_rfl) rfl (fun w => by kernel_rfl) (fun f w h => h),
      RS.StepE.pure 26 (by kernel_rfl) rfl (fun w => by kernel_rfl) (fun f w h => h),
      RS.StepE.load 27 (.int .i64 ((m - a : Nat) : Int)) (by kernel_rfl) (by kernel_rfl) rfl (fun f w h => h) (fun f w p1 p2 h => n_sub (by omega) (by omega) rfl (by kernel_rfl) (by kernel_rfl)),
      RS.StepE.load 28 (.bool false) (by kernel_rfl) (by kernel_rfl) rfl (fun f w h => h) (fun f w p1 p2 h => n_eql (a := m - a) (b := 1) (r := false) (decide_eq_false (show ¬ (m - a = 1) from by omega)) rfl (by kernel_rfl) (by kernel_rfl)), trivial⟩
  rintro f wx hf rfl
  clear hf
  (try simp only [RS.sets, List.setIfInBounds_toArray, List.set_cons_zero, List.set_cons_succ])
  go_upto_region 12 with (fail)
  refine RS.wp_textE [(77, .int .i64 ((b : Nat) : Int)), (78, .int .i64 ((m : Nat) : Int)), (79, .int .i64 ((b - m : Nat) : Int)), (80, .bool true)] (fun f w => w0 = w) (by kernel_rfl) (by kernel_rfl) (fun f hf => ?_) ?_ ?_
  · rfl
  · exact ⟨RS.StepE.pure 77 (by kernel_rfl) rfl (fun w => by kernel_rfl) (fun f w h => h),
      RS.StepE.pure 78 (by kernel_rfl) rfl (fun w => by kernel_rfl) (fun f w h => h),
      RS.StepE.load 79 (.int .i64 ((b - m : Nat) : Int)) (by kernel_rfl) (by kernel_rfl) rfl (fun f w h => h) (fun f w p1 p2 h => n_sub (by omega) (by omega) rfl (by kernel_rfl) (by kernel_rfl)),
      RS.StepE.load 80 (.bool true) (by kernel_rfl) (by kernel_rfl) rfl (fun f w h => h) (fun f w p1 p2 h => n_eql (a := b - m) (b := 1) (r := true) (decide_eq_true (show b - m = 1 from by omega)) rfl (by kernel_rfl) (by kernel_rfl)), trivial⟩
  rintro f wx hf rfl
  clear hf
  (try simp only [RS.sets, List.setIfInBounds_toArray, List.set_cons_zero, List.set_cons_succ])
  go_upto_region 13 with (fail)
  refine RS.wp_textE [(81, .int .i64 ((a : Nat) : Int)), (14, .int .i64 ((a : Nat) : Int))] (fun f w => w0 = w) (by kernel_rfl) (by kernel_rfl) (fun f hf => ?_) ?_ ?_
  · rfl
  · exact ⟨RS.StepE.pure 81 (by kernel_rfl) rfl (fun w => by kernel_rfl) (fun f w h => h),
      RS.StepE.pure 14 (by kernel_rfl) rfl (fun w => by kernel_rfl) (fun f w h => h), trivial⟩
  rintro f wx hf rfl
  clear hf
  (try simp only [RS.sets, List.setIfInBounds_toArray, List.set_cons_zero, List.set_cons_succ])
  go_upto_region 14 with (fail)
  refine RS.wp_textE [(82, .int .i64 ((m : Nat) : Int)), (15, .int .i64 ((m : Nat) : Int))] (fun f w => w0 = w) (by kernel_rfl) (by kernel_rfl) (fun f hf => ?_) ?_ ?_
  · rfl
  · exact ⟨RS.StepE.pure 82 (by kernel_rfl) rfl (fun w => by kernel_rfl) (fun f w h => h),
      RS.StepE.pure 15 (by kernel_rfl) rfl (fun w => by kernel_rfl) (fun f w h => h), trivial⟩
  rintro f wx hf rfl
  clear hf
  (try simp only [RS.sets, List.setIfInBounds_toArray, List.set_cons_zero, List.set_cons_succ])
  go_upto_region 15 with (fail)
  go_loopw [14, 15] (fun t u wr => ∃ i j : Nat, t = .int .i64 (i : Int) ∧ u = .int .i64 (j : Int) ∧ a ≤ i ∧ i ≤ j ∧ j ≤ m ∧ (i = a ∨ ¬ x.f1 < (cur.getD (i - 1) z38).f1) ∧ (j = m ∨ x.f1 < (cur.getD j z38).f1) ∧ SW w0 base g cap cur wr) (fun t u _ => (intOf u - intOf t).toNat)
  case atStart => exact ⟨a, m, rfl, rfl, Nat.le_refl _, Nat.le_of_lt h1, Nat.le_refl _, .inl rfl, .inl rfl, SW.start H.out⟩
  case round =>
    obtain ⟨i, j, rfl, rfl, hi, hij, hj, q1, q2, hs⟩ := hrel
    have HS := Aside0.mk hs
    have Q1 := Aside0.mk q1
    have Q2 := Aside0.mk q2
    clear hs q1 q2
    by_cases hlt : i < j
    · go_upto_region 15 with (fail)
      refine RS.wp_textE [(83, .int .i64 ((i : Nat) : Int)), (84, .int .i64 ((j : Nat) : Int)), (85, .bool true)] (fun f w => wr = w) (by kernel_rfl) (by kernel_rfl) (fun f hf => ?_) ?_ ?_
      · rfl
      · exact ⟨RS.StepE.pure 83 (by kernel_rfl) rfl (fun w => by kernel_rfl) (fun f w h => h),
          RS.StepE.pure 84 (by kernel_rfl) rfl (fun w => by kernel_rfl) (fun f w h => h),
          RS.StepE.load 85 (.bool true) (by kernel_rfl) (by kernel_rfl) rfl (fun f w h => h) (fun f w p1 p2 h => n_lss (a := i) (b := j) (r := true) (decide_eq_true (show i < j from by omega)) rfl (by kernel_rfl) (by kernel_rfl)), trivial⟩
      rintro f wx hf rfl
      clear hf
      (try simp only [RS.sets, List.setIfInBounds_toArray, List.set_cons_zero, List.set_cons_succ])
      go_upto_region 16 with (fail)
      refine RS.wp_textE [(86, .int .i64 ((i : Nat) : Int)), (87, .int .i64 ((j : Nat) : Int)), (88, .int .i64 ((i + j : Nat) : Int)), (89, .int .u64 ((i + j : Nat) : Int)), (90, .int .u64 (((i + j) / 2 : Nat) : Int)), (91, .int .i64 (((i + j) / 2 : Nat) : Int)), (16, .int .i64 (((i + j) / 2 : Nat) : Int))] (fun f w => wr = w) (by kernel_rfl) (by kernel_rfl) (fun f hf => ?_) ?_ ?_
      · rfl
      · exact ⟨RS.StepE.pure 86 (by kernel_rfl) rfl (fun w => by kernel_rfl) (fun f w h => h),
          RS.StepE.pure 87 (by kernel_rfl) rfl (fun w => by kernel_rfl) (fun f w h => h),
          RS.StepE.load 88 (.int .i64 ((i + j : Nat) : Int)) (by kernel_rfl) (by kernel_rfl) rfl (fun f w h => h) (fun f w p1 p2 h => n_add (by omega) rfl (by kernel_rfl) (by kernel_rfl)),
          RS.StepE.load 89 (.int .u64 ((i + j : Nat) : Int)) (by kernel_rfl) (by kernel_rfl) rfl (fun f w h => h) (fun f w p1 p2 h => n_conv (by omega) Try.underlying3 Try.underlying81 rfl (by kernel_rfl)),
          RS.StepE.load 90 (.int .u64 (((i + j) / 2 : Nat) : Int)) (by kernel_rfl) (by kernel_rfl) rfl (fun f w h => h) (fun f w p1 p2 h => n_shr (by omega) rfl (by kernel_rfl) (by kernel_rfl)),
          RS.StepE.load 91 (.int .i64 (((i + j) / 2 : Nat) : Int)) (by kernel_rfl) (by kernel_rfl) rfl (fun f w h => h) (fun f w p1 p2 h => n_back (by omega) Try.underlying81 Try.underlying3 rfl (by kernel_rfl)),
          RS.StepE.pure 16 (by kernel_rfl) rfl (fun w => by kernel_rfl) (fun f w h => h), trivial⟩
      rintro f wx hf rfl
      clear hf
      (try simp only [RS.sets, List.setIfInBounds_toArray, List.set_cons_zero, List.set_cons_succ])
      by_cases hc : (cur.getD (m) z38).f1 < (cur.getD ((i + j) / 2) z38).f1
      · have HC2 := Aside0.mk hc
        clear hc
        go_upto_region 17 with (fail)
        refine RS.wp_events (by kernel_rfl) [(92, .func (.func 30) #[] #[]), (93, .slice (some ⟨g, 0, none⟩) n cap), (94, .int .i64 ((m : Nat) : Int)), (95, .pointer (some ⟨g, (m) * 4, none⟩)), (96, .agg (encS ((cur).getD (m) z38))), (97, .slice (some ⟨g, 0, none⟩) n cap), (98, .int .i64 (((i + j) / 2 : Nat) : Int)), (99, .pointer (some ⟨g, ((i + j) / 2) * 4, none⟩)), (100, .agg (encS ((cur).getD ((i + j) / 2) z38))), (101, .int .i64 (cmpI (cur.getD (m) z38).f1 (cur.getD ((i + j) / 2) z38).f1)), (102, .bool true), (103, .bool false)] (fun f w => SW w0 base g cap (cur) w) (by kernel_rfl) (by kernel_rfl) (fun f hf => ?_) ?_ ?_
        · exact HS.out.drew
        · exact ⟨RS.StepE.pure 92 (by kernel_rfl) rfl (fun w => by kernel_rfl) (fun f w h => h),
            RS.StepE.pure 93 (by kernel_rfl) rfl (fun w => by kernel_rfl) (fun f w h => h),
            RS.StepE.pure 94 (by kernel_rfl) rfl (fun w => by kernel_rfl) (fun f w h => h),
            RS.StepE.load 95 (.pointer (some ⟨g, (m) * 4, none⟩)) (by kernel_rfl) (by kernel_rfl) rfl (fun f w h => h) (fun f w p1 p2 h => SB.index (n := n) (cap := cap) (i := m) (by omega) rfl (by kernel_rfl) (by kernel_rfl)),
            RS.StepE.load 96 (.agg (encS ((cur).getD (m) z38))) (by kernel_rfl) (by kernel_rfl) rfl (fun f w h => h) (fun f w p1 p2 h => (show SB _ g _ (cur) w from by exact h.2).load (i := m) (by have := HL.out; omega) rfl (by kernel_rfl)),
            RS.StepE.pure 97 (by kernel_rfl) rfl (fun w => by kernel_rfl) (fun f w h => h),
            RS.StepE.pure 98 (by kernel_rfl) rfl (fun w => by kernel_rfl) (fun f w h => h),
            RS.StepE.load 99 (.pointer (some ⟨g, ((i + j) / 2) * 4, none⟩)) (by kernel_rfl) (by kernel_rfl) rfl (fun f w h => h) (fun f w p1 p2 h => SB.index (n := n) (cap := cap) (i := (i + j) / 2) (by omega) rfl (by kernel_rfl) (by kernel_rfl)),
            RS.StepE.load 100 (.agg (encS ((cur).getD ((i + j) / 2) z38))) (by kernel_rfl) (by kernel_rfl) rfl (fun f w h => h) (fun f w p1 p2 h => (show SB _ g _ (cur) w from by exact h.2).load (i := (i + j) / 2) (by have := HL.out; omega) rfl (by kernel_rfl)),
            RS.StepE.call 101 30 #[.agg (encS (cur.getD (m) z38)), .agg (encS (cur.getD ((i + j) / 2) z38))] (.int .i64 (cmpI (cur.getD (m) z38).f1 (cur.getD ((i + j) / 2) z38).f1)) (by kernel_rfl) (by kernel_rfl) rfl (fun w => by kernel_rfl) (fun f w h0 p1 p2 h => (cmp_calls (cur.getD (m) z38) (cur.getD ((i + j) / 2) z38) w).mono (by rintro e w' ⟨rfl, hb⟩; exact ⟨rfl, h.below hb⟩)),
            RS.StepE.load 102 (.bool true) (by kernel_rfl) (by kernel_rfl) rfl (fun f w h => h) (fun f w p1 p2 h => i_lss (a := cmpI (cur.getD (m) z38).f1 (cur.getD ((i + j) / 2) z38).f1) (b := 0) (cmp_yes (HC2.out)) rfl (by kernel_rfl) (by kernel_rfl)),
            RS.StepE.pure 103 (by kernel_rfl) rfl (fun w => by kernel_rfl) (fun f w h => h), trivial⟩
        rintro f w1 hf hs
        have H1 := Aside0.mk hs
        clear hf hs
        (try simp only [RS.sets, List.setIfInBounds_toArray, List.set_cons_zero, List.set_cons_succ])
        go_upto_region 19 with (fail)
        refine RS.wp_textE [(106, .int .i64 (((i + j) / 2 : Nat) : Int)), (15, .int .i64 (((i + j) / 2 : Nat) : Int))] (fun f w => w1 = w) (by kernel_rfl) (by kernel_rfl) (fun f hf => ?_) ?_ ?_
        · rfl
        · exact ⟨RS.StepE.pure 106 (by kernel_rfl) rfl (fun w => by kernel_rfl) (fun f w h => h),
            RS.StepE.pure 15 (by kernel_rfl) rfl (fun w => by kernel_rfl) (fun f w h => h), trivial⟩
        rintro f wx hf rfl
        clear hf
        (try simp only [RS.sets, List.setIfInBounds_toArray, List.set_cons_zero, List.set_cons_succ])
        go_wp2_with fail
        exact ⟨⟨i, (i + j) / 2, rfl, rfl, hi, by omega, by omega, Q1.out, .inr (by have := HC2.out; rw [HX.out] at this; exact this), H1.out⟩, by simp [intOf]; omega⟩
      · have HC2 := Aside0.mk hc
        clear hc
        go_upto_region 17 with (fail)
        refine RS.wp_events (by kernel_rfl) [(92, .func (.func 30) #[] #[]), (93, .slice (some ⟨g, 0, none⟩) n cap), (94, .int .i64 ((m : Nat) : Int)), (95, .pointer (some ⟨g, (m) * 4, none⟩)), (96, .agg (encS ((cur).getD (m) z38))), (97, .slice (some ⟨g, 0, none⟩) n cap), (98, .int .i64 (((i + j) / 2 : Nat) : Int)), (99, .pointer (some ⟨g, ((i + j) / 2) * 4, none⟩)), (100, .agg (encS ((cur).getD ((i + j) / 2) z38))), (101, .int .i64 (cmpI (cur.getD (m) z38).f1 (cur.getD ((i + j) / 2) z38).f1)), (102, .bool false), (103, .bool true)] (fun f w => SW w0 base g cap (cur) w) (by kernel_rfl) (by kernel_rfl) (fun f hf => ?_) ?_ ?_
        · exact HS.out.drew
        · exact ⟨RS.StepE.pure 92 (by kernel_rfl) rfl (fun w => by kernel_rfl) (fun f w h => h),
            RS.StepE.pure 93 (by kernel_rfl) rfl (fun w => by kernel_rfl) (fun f w h => h),
            RS.StepE.pure 94 (by kernel_rfl) rfl (fun w => by kernel_rfl) (fun f w h => h),
            RS.StepE.load 95 (.pointer (some ⟨g, (m) * 4, none⟩)) (by kernel_rfl) (by kernel_rfl) rfl (fun f w h => h) (fun f w p1 p2 h => SB.index (n := n) (cap := cap) (i := m) (by omega) rfl (by kernel_rfl) (by kernel_rfl)),
            RS.StepE.load 96 (.agg (encS ((cur).getD (m) z38))) (by kernel_rfl) (by kernel_rfl) rfl (fun f w h => h) (fun f w p1 p2 h => (show SB _ g _ (cur) w from by exact h.2).load (i := m) (by have := HL.out; omega) rfl (by kernel_rfl)),
            RS.StepE.pure 97 (by kernel_rfl) rfl (fun w => by kernel_rfl) (fun f w h => h),
            RS.StepE.pure 98 (by kernel_rfl) rfl (fun w => by kernel_rfl) (fun f w h => h),
            RS.StepE.load 99 (.pointer (some ⟨g, ((i + j) / 2) * 4, none⟩)) (by kernel_rfl) (by kernel_rfl) rfl (fun f w h => h) (fun f w p1 p2 h => SB.index (n := n) (cap := cap) (i := (i + j) / 2) (by omega) rfl (by kernel_rfl) (by kernel_rfl)),
            RS.StepE.load 100 (.agg (encS ((cur).getD ((i + j) / 2) z38))) (by kernel_rfl) (by kernel_rfl) rfl (fun f w h => h) (fun f w p1 p2 h => (show SB _ g _ (cur) w from by exact h.2).load (i := (i + j) / 2) (by have := HL.out; omega) rfl (by kernel_rfl)),
            RS.StepE.call 101 30 #[.agg (encS (cur.getD (m) z38)), .agg (encS (cur.getD ((i + j) / 2) z38))] (.int .i64 (cmpI (cur.getD (m) z38).f1 (cur.getD ((i + j) / 2) z38).f1)) (by kernel_rfl) (by kernel_rfl) rfl (fun w => by kernel_rfl) (fun f w h0 p1 p2 h => (cmp_calls (cur.getD (m) z38) (cur.getD ((i + j) / 2) z38) w).mono (by rintro e w' ⟨rfl, hb⟩; exact ⟨rfl, h.below hb⟩)),
            RS.StepE.load 102 (.bool false) (by kernel_rfl) (by kernel_rfl) rfl (fun f w h => h) (fun f w p1 p2 h => i_lss (a := cmpI (cur.getD (m) z38).f1 (cur.getD ((i + j) / 2) z38).f1) (b := 0) (cmp_no (HC2.out)) rfl (by kernel_rfl) (by kernel_rfl)),
            RS.StepE.pure 103 (by kernel_rfl) rfl (fun w => by kernel_rfl) (fun f w h => h), trivial⟩
        rintro f w1 hf hs
        have H1 := Aside0.mk hs
        clear hf hs
        (try simp only [RS.sets, List.setIfInBounds_toArray, List.set_cons_zero, List.set_cons_succ])
        go_upto_region 18 with (fail)
        refine RS.wp_textE [(104, .int .i64 (((i + j) / 2 : Nat) : Int)), (105, .int .i64 (((i + j) / 2 + 1 : Nat) : Int)), (14, .int .i64 (((i + j) / 2 + 1 : Nat) : Int))] (fun f w => w1 = w) (by kernel_rfl) (by kernel_rfl) (fun f hf => ?_) ?_ ?_
        · rfl
        · exact ⟨RS.StepE.pure 104 (by kernel_rfl) rfl (fun w => by kernel_rfl) (fun f w h => h),
            RS.StepE.load 105 (.int .i64 (((i + j) / 2 + 1 : Nat) : Int)) (by kernel_rfl) (by kernel_rfl) rfl (fun f w h => h) (fun f w p1 p2 h => n_add (by omega) rfl (by kernel_rfl) (by kernel_rfl)),
            RS.StepE.pure 14 (by kernel_rfl) rfl (fun w => by kernel_rfl) (fun f w h => h), trivial⟩
        rintro f wx hf rfl
        clear hf
        (try simp only [RS.sets, List.setIfInBounds_toArray, List.set_cons_zero, List.set_cons_succ])
        go_wp2_with fail
        exact ⟨⟨(i + j) / 2 + 1, j, rfl, rfl, by omega, by omega, hj, .inr (by have := HC2.out; rw [HX.out] at this; exact this), Q2.out, H1.out⟩, by simp [intOf]; omega⟩
    · have hie : j = i := by omega
      subst hie
      go_upto_region 15 with (fail)
      refine RS.wp_textE [(83, .int .i64 ((j : Nat) : Int)), (84, .int .i64 ((j : Nat) : Int)), (85, .bool false)] (fun f w => wr = w) (by kernel_rfl) (by kernel_rfl) (fun f hf => ?_) ?_ ?_
      · rfl
      · exact ⟨RS.StepE.pure 83 (by kernel_rfl) rfl (fun w => by kernel_rfl) (fun f w h => h),
          RS.StepE.pure 84 (by kernel_rfl) rfl (fun w => by kernel_rfl) (fun f w h => h),
          RS.StepE.load 85 (.bool false) (by kernel_rfl) (by kernel_rfl) rfl (fun f w h => h) (fun f w p1 p2 h => n_lss (a := j) (b := j) (r := false) (decide_eq_false (show ¬ (j < j) from by omega)) rfl (by kernel_rfl) (by kernel_rfl)), trivial⟩
      rintro f wx hf rfl
      clear hf
      (try simp only [RS.sets, List.setIfInBounds_toArray, List.set_cons_zero, List.set_cons_succ])
      go_upto_region 20 with (fail)
      refine RS.wp_textE [(107, .int .i64 ((m : Nat) : Int)), (17, .int .i64 ((m : Nat) : Int))] (fun f w => wr = w) (by kernel_rfl) (by kernel_rfl) (fun f hf => ?_) ?_ ?_
      · rfl
      · exact ⟨RS.StepE.pure 107 (by kernel_rfl) rfl (fun w => by kernel_rfl) (fun f w h => h),
          RS.StepE.pure 17 (by kernel_rfl) rfl (fun w => by kernel_rfl) (fun f w h => h), trivial⟩
      rintro f wx hf rfl
      clear hf
      (try simp only [RS.sets, List.setIfInBounds_toArray, List.set_cons_zero, List.set_cons_succ])
      have HI := Aside0.mk (InsI.start P A S x)
      rw [show P ++ (A ++ x :: S) = cur by rw [← HC.out, HAX.out]; rfl, HM.out] at HI
      have hup : ∀ k, j < k → k ≤ m → x.f1 < (A.getD (k - 1 - a) z38).f1 := fun k hk hkm => by
        rcases Q2.out with q | q
        · omega
        · have g1 := get_A (P := P) (A := A) (R := B ++ S) (i := j - a) (by have := HA.out; have := HM.out; omega)
          rw [HC.out, HA.out, show a + (j - a) = j by omega] at g1
          rw [g1] at q
          have := srt_get SA.out (show j - a ≤ k - 1 - a by omega) (by have := HA.out; have := HM.out; omega)
          omega
      have HUP := Aside0.mk hup
      have hdn : j = a ∨ ¬ x.f1 < (A.getD (j - 1 - a) z38).f1 := by
        rcases Q1.out with q | q
        · exact .inl q
        · by_cases e : j = a
          · exact .inl e
          · right
            have g1 := get_A (P := P) (A := A) (R := B ++ S) (i := j - 1 - a) (by have := HA.out; have := HM.out; omega)
            rw [HC.out, HA.out, show a + (j - 1 - a) = j - 1 by omega] at g1
            rw [← g1]
            exact q
      have HDN := Aside0.mk hdn
      clear hup hdn
      go_upto_region 21 with (fail)
      go_loopw [17] (fun t wq => ∃ k : Nat, t = .int .i64 (k : Int) ∧ j ≤ k ∧ k ≤ m ∧ ∃ c2, InsI P A S x k c2 ∧ (∀ q, q < k → c2.getD q z38 = cur.getD q z38) ∧ c2.length = n ∧ SW w0 base g cap c2 wq) (fun t _ => (intOf t).toNat)
      case atStart => exact ⟨m, rfl, by omega, by omega, cur, HI.out, fun _ _ => rfl, HL.out, HS.out⟩
      case round =>
        obtain ⟨k, rfl, hjk, hkm, c2, ho, hsame, hl, hs⟩ := hrel
        have HQ := Aside0.mk hs
        have HO2 := Aside0.mk ho
        have HL2 := Aside0.mk hl
        have HSM := Aside0.mk hsame
        clear hs ho hl hsame
        have hgk : a < k → c2.getD (k - 1) z38 = A.getD (k - 1 - a) z38 := fun hak => by
          rw [HSM.out (k - 1) (by omega)]
          have g1 := get_A (P := P) (A := A) (R := B ++ S) (i := k - 1 - a) (by have := HA.out; have := HM.out; omega)
          rw [HC.out, HA.out, show a + (k - 1 - a) = k - 1 by omega] at g1
          exact g1
        have HGK := Aside0.mk hgk
        clear hgk
        by_cases hlt2 : j < k
        · go_upto_region 21 with (fail)
          refine RS.wp_textE [(108, .int .i64 ((k : Nat) : Int)), (109, .int .i64 ((j : Nat) : Int)), (110, .bool true)] (fun f w => wr = w) (by kernel_rfl) (by kernel_rfl) (fun f hf => ?_) ?_ ?_
          · rfl
          · exact ⟨RS.StepE.pure 108 (by kernel_rfl) rfl (fun w => by kernel_rfl) (fun f w h => h),
              RS.StepE.pure 109 (by kernel_rfl) rfl (fun w => by kernel_rfl) (fun f w h => h),
              RS.StepE.load 110 (.bool true) (by kernel_rfl) (by kernel_rfl) rfl (fun f w h => h) (fun f w p1 p2 h => n_gtr (a := k) (b := j) (r := true) (decide_eq_true (show j < k from by omega)) rfl (by kernel_rfl) (by kernel_rfl)), trivial⟩
          rintro f wx hf rfl
          clear hf
          (try simp only [RS.sets, List.setIfInBounds_toArray, List.set_cons_zero, List.set_cons_succ])
          go_upto_region 23 with (fail)
          refine RS.wp_events (by kernel_rfl) [(113, .slice (some ⟨g, 0, none⟩) n cap), (114, .int .i64 ((k : Nat) : Int)), (115, .slice (some ⟨g, 0, none⟩) n cap), (116, .int .i64 ((k : Nat) : Int)), (117, .int .i64 ((k - 1 : Nat) : Int)), (118, .slice (some ⟨g, 0, none⟩) n cap), (119, .int .i64 ((k : Nat) : Int)), (120, .int .i64 ((k - 1 : Nat) : Int)), (121, .pointer (some ⟨g, (k - 1) * 4, none⟩)), (122, .agg (encS ((c2).getD (k - 1) z38))), (123, .slice (some ⟨g, 0, none⟩) n cap), (124, .int .i64 ((k : Nat) : Int)), (125, .pointer (some ⟨g, (k) * 4, none⟩)), (126, .agg (encS ((c2).getD (k) z38))), (127, .pointer (some ⟨g, (k) * 4, none⟩)), (128, .pointer (some ⟨g, (k - 1) * 4, none⟩))] (fun f w => SW w0 base g cap (swS (c2) (k) (k - 1) (f 15) (f 17)) w) (by kernel_rfl) (by kernel_rfl) (fun f hf => ?_) ?_ ?_
          · simp only [hf 15 (by decide), hf 17 (by decide)]
            exact HQ.out.drew
          · exact ⟨RS.StepE.pure 113 (by kernel_rfl) rfl (fun w => by kernel_rfl) (fun f w h => h),
              RS.StepE.pure 114 (by kernel_rfl) rfl (fun w => by kernel_rfl) (fun f w h => h),
              RS.StepE.pure 115 (by kernel_rfl) rfl (fun w => by kernel_rfl) (fun f w h => h),
              RS.StepE.pure 116 (by kernel_rfl) rfl (fun w => by kernel_rfl) (fun f w h => h),
              RS.StepE.load 117 (.int .i64 ((k - 1 : Nat) : Int)) (by kernel_rfl) (by kernel_rfl) rfl (fun f w h => h) (fun f w p1 p2 h => n_sub (by omega) (by omega) rfl (by kernel_rfl) (by kernel_rfl)),
              RS.StepE.pure 118 (by kernel_rfl) rfl (fun w => by kernel_rfl) (fun f w h => h),
              RS.StepE.pure 119 (by kernel_rfl) rfl (fun w => by kernel_rfl) (fun f w h => h),
              RS.StepE.load 120 (.int .i64 ((k - 1 : Nat) : Int)) (by kernel_rfl) (by kernel_rfl) rfl (fun f w h => h) (fun f w p1 p2 h => n_sub (by omega) (by omega) rfl (by kernel_rfl) (by kernel_rfl)),
              RS.StepE.load 121 (.pointer (some ⟨g, (k - 1) * 4, none⟩)) (by kernel_rfl) (by kernel_rfl) rfl (fun f w h => h) (fun f w p1 p2 h => SB.index (n := n) (cap := cap) (i := k - 1) (by omega) rfl (by kernel_rfl) (by kernel_rfl)),
              RS.StepE.load 122 (.agg (encS ((c2).getD (k - 1) z38))) (by kernel_rfl) (by kernel_rfl) rfl (fun f w h => h) (fun f w p1 p2 h => (show SB _ g _ (c2) w from by have e1 : f 15 = false := p2 15 (by kernel_rfl) (by decide); have e2 : f 17 = false := p2 17 (by kernel_rfl) (by decide); have h' := h.2; simp only [e1, e2] at h'; exact h').load (i := k - 1) (by have := HL2.out; omega) rfl (by kernel_rfl)),
              RS.StepE.pure 123 (by kernel_rfl) rfl (fun w => by kernel_rfl) (fun f w h => h),
              RS.StepE.pure 124 (by kernel_rfl) rfl (fun w => by kernel_rfl) (fun f w h => h),
              RS.StepE.load 125 (.pointer (some ⟨g, (k) * 4, none⟩)) (by kernel_rfl) (by kernel_rfl) rfl (fun f w h => h) (fun f w p1 p2 h => SB.index (n := n) (cap := cap) (i := k) (by omega) rfl (by kernel_rfl) (by kernel_rfl)),
              RS.StepE.load 126 (.agg (encS ((c2).getD (k) z38))) (by kernel_rfl) (by kernel_rfl) rfl (fun f w h => h) (fun f w p1 p2 h => (show SB _ g _ (c2) w from by have e1 : f 15 = false := p2 15 (by kernel_rfl) (by decide); have e2 : f 17 = false := p2 17 (by kernel_rfl) (by decide); have h' := h.2; simp only [e1, e2] at h'; exact h').load (i := k) (by have := HL2.out; omega) rfl (by kernel_rfl)),
              RS.StepE.load 127 (.pointer (some ⟨g, (k) * 4, none⟩)) (by kernel_rfl) (by kernel_rfl) rfl (fun f w h => h) (fun f w p1 p2 h => SB.index (n := n) (cap := cap) (i := k) (by omega) rfl (by kernel_rfl) (by kernel_rfl)),
              RS.StepE.event (undef) (by intro d hd; cases hd) (by kernel_rfl) (fun f w h0 p1 p2 h => by
                have h0 : f 15 = false := h0
                simp only [h0] at h
                exact SW.one (by omega) (by have := HL2.out; omega) h rfl (by kernel_rfl) (by kernel_rfl)),
              RS.StepE.load 128 (.pointer (some ⟨g, (k - 1) * 4, none⟩)) (by kernel_rfl) (by kernel_rfl) rfl (fun f w h => h) (fun f w p1 p2 h => SB.index (n := n) (cap := cap) (i := k - 1) (by omega) rfl (by kernel_rfl) (by kernel_rfl)),
              RS.StepE.event (undef) (by intro d hd; cases hd) (by kernel_rfl) (fun f w h0 p1 p2 h => by
                have h0 : f 17 = false := h0
                simp only [h0] at h
                exact SW.two (by have := HL2.out; omega) h rfl (by kernel_rfl) (by kernel_rfl)), trivial⟩
          rintro f w2 hf hs
          simp only [hf] at hs
          have H2 := Aside0.mk (show SW w0 base g cap (swp (c2) (k) (k - 1)) w2 from hs)
          clear hf hs
          (try simp only [RS.sets, List.setIfInBounds_toArray, List.set_cons_zero, List.set_cons_succ])
          go_upto_region 22 with (fail)
          refine wp_region_lit ?_
          refine RS.seq1 (by kernel_rfl) (.int .i64 ((k : Nat) : Int)) (by kernel_rfl) ?_
          refine RS.seq1 (by kernel_rfl) (.int .i64 ((k - 1 : Nat) : Int)) (n_sub (by omega) (by omega) rfl (by kernel_rfl) (by kernel_rfl)) ?_
          refine RS.seq1 (by kernel_rfl) (.int .i64 ((k - 1 : Nat) : Int)) (by kernel_rfl) ?_
          (try simp only [Act.put, List.setIfInBounds_toArray, List.set_cons_zero, List.set_cons_succ])
          go_wp2_with fail
          refine ⟨⟨k - 1, rfl, by omega, by omega, _, HO2.out.step (by rw [HA.out]; omega) (by rw [HGK.out (by omega)]; exact HUP.out k hlt2 hkm), fun q hq => ?_, by rw [swp_len]; exact HL2.out, H2.out⟩, by simp [intOf]; omega⟩
          rw [← HSM.out q (by omega)]
          unfold swp
          rw [List.getD_eq_getElem?_getD, List.getElem?_set_ne (by omega), List.getElem?_set_ne (by omega), ← List.getD_eq_getElem?_getD]
        · have hkj : k = j := by omega
          subst hkj
          go_upto_region 21 with (fail)
          refine RS.wp_textE [(108, .int .i64 ((k : Nat) : Int)), (109, .int .i64 ((k : Nat) : Int)), (110, .bool false)] (fun f w => wr = w) (by kernel_rfl) (by kernel_rfl) (fun f hf => ?_) ?_ ?_
          · rfl
          · exact ⟨RS.StepE.pure 108 (by kernel_rfl) rfl (fun w => by kernel_rfl) (fun f w h => h),
              RS.StepE.pure 109 (by kernel_rfl) rfl (fun w => by kernel_rfl) (fun f w h => h),
              RS.StepE.load 110 (.bool false) (by kernel_rfl) (by kernel_rfl) rfl (fun f w h => h) (fun f w p1 p2 h => n_gtr (a := k) (b := k) (r := false) (decide_eq_false (show ¬ (k < k) from by omega)) rfl (by kernel_rfl) (by kernel_rfl)), trivial⟩
          rintro f wx hf rfl
          clear hf
          (try simp only [RS.sets, List.setIfInBounds_toArray, List.set_cons_zero, List.set_cons_succ])
          go_wp2_with fail
          first | go_end0 | (refine bodyPost_ret (results_none rfl _ _ _) rfl ?_)
          obtain ⟨Z, hz, hc⟩ := HO2.out.done (X0 := A) ⟨SA.out, fun _ => rfl⟩ (by
            rcases HDN.out with e | e
            · left; rw [HA.out]; exact e
            · by_cases hka : a < k
              · right; rw [HGK.out hka]; omega
              · left; rw [HA.out]; omega)
          have h5 := HQ.out
          rw [hc] at h5
          exact ⟨rfl, Z, by rw [HAX.out]; exact hz, h5⟩
end Go.Proofs.Ytgdhciilobnelaa.B
