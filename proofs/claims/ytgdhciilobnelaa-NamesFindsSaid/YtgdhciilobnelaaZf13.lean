/- Merging two sorted parts of symbols: the turn. -/
import Derived.Test.YtgdhciilobnelaaZf12
namespace Go.Proofs.Ytgdhciilobnelaa.B
open Go.RowKit Go.Lib Go.Proofs.YtgdhciilobnelaaW.PrintWords Go.Proofs.YtgdhciilobnelaaW.PrintLast Go.Proofs.YtgdhciilobnelaaW.PrintMore Go.RF
set_option linter.unusedVariables false
set_option linter.unusedSimpArgs false
attribute [local go_sem] max2_int min2_int max_two min_two
theorem mid_parts {P A B S cur : List S38} {a m b mid st : Nat} (hc : P ++ (A ++ (B ++ S)) = cur) (ha : P.length = a) (hm : P.length + A.length = m) (hb : P.length + A.length + B.length = b) (hst : a ≤ st ∧ st ≤ m ∧ st ≤ mid ∧ m ≤ mid + m - st ∧ mid + m - st ≤ b) :
    cur = (P ++ A.take (st - a)) ++ (A.drop (st - a) ++ (B.take (mid + m - st - m) ++ (B.drop (mid + m - st - m) ++ S))) ∧ (P ++ A.take (st - a)).length = st ∧ (A.take (st - a)).length = st - a ∧ (A.drop (st - a)).length = m - st ∧ (B.take (mid + m - st - m)).length = mid - st ∧ (B.drop (mid + m - st - m)).length = b - (mid + m - st) := by
  subst hc
  refine ⟨?_, by rw [List.length_append, List.length_take]; omega, by rw [List.length_take]; omega, by rw [List.length_drop]; omega, by rw [List.length_take]; omega, by rw [List.length_drop]; omega⟩
  rw [← List.append_assoc (B.take _), List.take_append_drop]
  rw [List.append_assoc, ← List.append_assoc (A.take _), List.take_append_drop]
theorem turn_none {L A2 B1 R : List S38} (h : A2 = [] ∨ B1 = []) : L ++ (A2 ++ (B1 ++ R)) = L ++ (B1 ++ (A2 ++ R)) := by
  rcases h with rfl | rfl <;> simp
theorem SS.whole {A B : List S38} (ha : Srt A) (hb : Srt B) (h : A = [] ∨ B = []) : SS (A ++ B) (A ++ B) := by
  rcases h with rfl | rfl
  · exact ⟨by simpa using hb, fun _ => rfl⟩
  · exact ⟨by simpa using ha, fun _ => rfl⟩
set_option maxHeartbeats 8000000 in
set_option maxRecDepth 100000 in
theorem sym_main (base g cap n a m b : Nat) (P A B S : List S38) (w0 : World) (h : SB base g cap (P ++ (A ++ (B ++ S))) w0) (hn : (P ++ (A ++ (B ++ S))).length = n) (ha : P.length = a) (hmm : P.length + A.length = m) (hb : P.length + A.length + B.length = b) (hA : 0 < A.length) (hB : 0 < B.length) (sa : Srt A) (sb : Srt B) (hm : n ≤ 1000000) (hone : A.length ≠ 1) (hlast : B.length ≠ 1)
    (ih : ∀ (a' m' b' : Nat) (P' A' B' S' : List S38) (w : World), b' - a' < b - a → SB base g cap (P' ++ (A' ++ (B' ++ S'))) w → (P' ++ (A' ++ (B' ++ S'))).length = n → P'.length = a' → P'.length + A'.length = m' → P'.length + A'.length + B'.length = b' → 0 < A'.length → 0 < B'.length → Srt A' → Srt B' →
      Calls Try.prog 43 #[.slice (some ⟨g, 0, none⟩) n cap, .int .i64 (a' : Int), .int .i64 (m' : Int), .int .i64 (b' : Int), .func (.func 30) #[] #[]] w fun e w' => e = .returned (.tuple #[]) ∧ ∃ C, SS (A' ++ B') C ∧ SW w base g cap (P' ++ (C ++ S')) w') :
    Calls Try.prog 43 #[.slice (some ⟨g, 0, none⟩) n cap, .int .i64 (a : Int), .int .i64 (m : Int), .int .i64 (b : Int), .func (.func 30) #[] #[]] w0 fun e w' => e = .returned (.tuple #[]) ∧ ∃ C, SS (A ++ B) C ∧ SW w0 base g cap (P ++ (C ++ S)) w' := by
  have hbn : b ≤ n := by simp only [List.length_append] at hn; omega
  have HA := Aside0.mk ha
  have HM := Aside0.mk hmm
  have HB := Aside0.mk hb
  have SA := Aside0.mk sa
  have SBB := Aside0.mk sb
  have h1 : a < m := by omega
  have h2 : m < b := by omega
  obtain ⟨cur, hcur⟩ : ∃ cur, P ++ (A ++ (B ++ S)) = cur := ⟨_, rfl⟩
  rw [hcur] at h hn
  have HC := Aside0.mk hcur
  have H := Aside0.mk h
  have HL := Aside0.mk hn
  have hma : m - a ≠ 1 := by omega
  have hmb : b - m ≠ 1 := by omega
  have IH := Aside0.mk ih
  clear hone hlast ih
  clear h hn ha hmm hb hA hB sa sb hcur
  go_enter Try.func43, Try.ntmps43
  go_upto_region 0 with (fail)
  refine RS.wp_textE [(25, .int .i64 ((m : Nat) : Int)), (26, .int .i64 ((a : Nat) : Int)), (27, .int .i64 ((m - a : Nat) : Int)), (28, .bool false)] (fun f w => w0 = w) (by kernel_rfl) (by kernel_rfl) (fun f hf => ?_) ?_ ?_
  · rfl
  · exact ⟨RS.StepE.pure 25 (by kernel_rfl) rfl (fun w => by kernel_rfl) (fun f w h => h),
      RS.StepE.pure 26 (by kernel_rfl) rfl (fun w => by kernel_rfl) (fun f w h => h),
      RS.StepE.load 27 (.int .i64 ((m - a : Nat) : Int)) (by kernel_rfl) (by kernel_rfl) rfl (fun f w h => h) (fun f w p1 p2 h => n_sub (by omega) (by omega) rfl (by kernel_rfl) (by kernel_rfl)),
      RS.StepE.load 28 (.bool false) (by kernel_rfl) (by kernel_rfl) rfl (fun f w h => h) (fun f w p1 p2 h => n_eql (a := m - a) (b := 1) (r := false) (decide_eq_false (show ¬ (m - a = 1) from by omega)) rfl (by kernel_rfl) (by kernel_rfl)), trivial⟩
  rintro f wx hf rfl
  clear hf
  (try simp only [RS.sets, List.setIfInBounds_toArray, List.set_cons_zero, List.set_cons_succ])
  go_upto_region 12 with (fail)
  refine RS.wp_textE [(77, .int .i64 ((b : Nat) : Int)), (78, .int .i64 ((m : Nat) : Int)), (79, .int .i64 ((b - m : Nat) : Int)), (80, .bool false)] (fun f w => w0 = w) (by kernel_rfl) (by kernel_rfl) (fun f hf => ?_) ?_ ?_
  · rfl
  · exact ⟨RS.StepE.pure 77 (by kernel_rfl) rfl (fun w => by kernel_rfl) (fun f w h => h),
      RS.StepE.pure 78 (by kernel_rfl) rfl (fun w => by kernel_rfl) (fun f w h => h),
      RS.StepE.load 79 (.int .i64 ((b - m : Nat) : Int)) (by kernel_rfl) (by kernel_rfl) rfl (fun f w h => h) (fun f w p1 p2 h => n_sub (by omega) (by omega) rfl (by kernel_rfl) (by kernel_rfl)),
      RS.StepE.load 80 (.bool false) (by kernel_rfl) (by kernel_rfl) rfl (fun f w h => h) (fun f w p1 p2 h => n_eql (a := b - m) (b := 1) (r := false) (decide_eq_false (show ¬ (b - m = 1) from by omega)) rfl (by kernel_rfl) (by kernel_rfl)), trivial⟩
  rintro f wx hf rfl
  clear hf
  (try simp only [RS.sets, List.setIfInBounds_toArray, List.set_cons_zero, List.set_cons_succ])
  go_upto_region 24 with (fail)
  refine RS.wp_textE [(129, .int .i64 ((a : Nat) : Int)), (130, .int .i64 ((b : Nat) : Int)), (131, .int .i64 ((a + b : Nat) : Int)), (132, .int .u64 ((a + b : Nat) : Int)), (133, .int .u64 (((a + b) / 2 : Nat) : Int)), (134, .int .i64 (((a + b) / 2 : Nat) : Int)), (18, .int .i64 (((a + b) / 2 : Nat) : Int))] (fun f w => w0 = w) (by kernel_rfl) (by kernel_rfl) (fun f hf => ?_) ?_ ?_
  · rfl
  · exact ⟨RS.StepE.pure 129 (by kernel_rfl) rfl (fun w => by kernel_rfl) (fun f w h => h),
      RS.StepE.pure 130 (by kernel_rfl) rfl (fun w => by kernel_rfl) (fun f w h => h),
      RS.StepE.load 131 (.int .i64 ((a + b : Nat) : Int)) (by kernel_rfl) (by kernel_rfl) rfl (fun f w h => h) (fun f w p1 p2 h => n_add (by omega) rfl (by kernel_rfl) (by kernel_rfl)),
      RS.StepE.load 132 (.int .u64 ((a + b : Nat) : Int)) (by kernel_rfl) (by kernel_rfl) rfl (fun f w h => h) (fun f w p1 p2 h => n_conv (by omega) Try.underlying3 Try.underlying81 rfl (by kernel_rfl)),
      RS.StepE.load 133 (.int .u64 (((a + b) / 2 : Nat) : Int)) (by kernel_rfl) (by kernel_rfl) rfl (fun f w h => h) (fun f w p1 p2 h => n_shr (by omega) rfl (by kernel_rfl) (by kernel_rfl)),
      RS.StepE.load 134 (.int .i64 (((a + b) / 2 : Nat) : Int)) (by kernel_rfl) (by kernel_rfl) rfl (fun f w h => h) (fun f w p1 p2 h => n_back (by omega) Try.underlying81 Try.underlying3 rfl (by kernel_rfl)),
      RS.StepE.pure 18 (by kernel_rfl) rfl (fun w => by kernel_rfl) (fun f w h => h), trivial⟩
  rintro f wx hf rfl
  clear hf
  (try simp only [RS.sets, List.setIfInBounds_toArray, List.set_cons_zero, List.set_cons_succ])
  obtain ⟨mid, hmid⟩ : ∃ mid, (a + b) / 2 = mid := ⟨_, rfl⟩
  have HMID := Aside0.mk hmid
  rw [hmid]
  go_upto_region 25 with (fail)
  refine RS.wp_textE [(135, .int .i64 ((mid : Nat) : Int)), (136, .int .i64 ((m : Nat) : Int)), (137, .int .i64 ((mid + m : Nat) : Int)), (19, .int .i64 ((mid + m : Nat) : Int))] (fun f w => w0 = w) (by kernel_rfl) (by kernel_rfl) (fun f hf => ?_) ?_ ?_
  · rfl
  · exact ⟨RS.StepE.pure 135 (by kernel_rfl) rfl (fun w => by kernel_rfl) (fun f w h => h),
      RS.StepE.pure 136 (by kernel_rfl) rfl (fun w => by kernel_rfl) (fun f w h => h),
      RS.StepE.load 137 (.int .i64 ((mid + m : Nat) : Int)) (by kernel_rfl) (by kernel_rfl) rfl (fun f w h => h) (fun f w p1 p2 h => n_add (by omega) rfl (by kernel_rfl) (by kernel_rfl)),
      RS.StepE.pure 19 (by kernel_rfl) rfl (fun w => by kernel_rfl) (fun f w h => h), trivial⟩
  rintro f wx hf rfl
  clear hf
  (try simp only [RS.sets, List.setIfInBounds_toArray, List.set_cons_zero, List.set_cons_succ])
  go_upto_region 26 with (fail)
  refine RS.wp_textE [(20, .int .i64 ((0 : Nat) : Int)), (21, .int .i64 ((0 : Nat) : Int))] (fun f w => w0 = w) (by kernel_rfl) (by kernel_rfl) (fun f hf => ?_) ?_ ?_
  · rfl
  · exact ⟨RS.StepE.pure 20 (by kernel_rfl) rfl (fun w => by kernel_rfl) (fun f w h => h),
      RS.StepE.pure 21 (by kernel_rfl) rfl (fun w => by kernel_rfl) (fun f w h => h), trivial⟩
  rintro f wx hf rfl
  clear hf
  (try simp only [RS.sets, List.setIfInBounds_toArray, List.set_cons_zero, List.set_cons_succ])
  have hsr : ∃ s0 r0 : Nat, a ≤ s0 ∧ s0 ≤ r0 ∧ r0 ≤ m ∧ r0 ≤ mid ∧ mid + m ≤ b + s0 ∧ (s0 = a ∨ mid + m = b + s0) ∧ (r0 = m ∨ r0 = mid) ∧ ((m > mid ∧ b ≤ mid + m ∧ s0 = mid + m - b ∧ r0 = mid) ∨ (m ≤ mid ∧ a ≤ m ∧ s0 = a ∧ r0 = m)) := by
    by_cases h : m > mid
    · exact ⟨mid + m - b, mid, by omega, by omega, by omega, by omega, by omega, by omega, by omega, .inl ⟨h, by omega, rfl, rfl⟩⟩
    · exact ⟨a, m, by omega, by omega, by omega, by omega, by omega, by omega, by omega, .inr ⟨by omega, by omega, rfl, rfl⟩⟩
  obtain ⟨s0, r0, g1, g2, g3, g4, g5, g6, g7, hsr⟩ := hsr
  clear hmid
  rcases hsr with hsr | hsr
  · obtain ⟨q1, q0, q2, q3⟩ := hsr
    go_upto_region 27 with (fail)
    refine RS.wp_textE [(138, .int .i64 ((m : Nat) : Int)), (139, .int .i64 ((mid : Nat) : Int)), (140, .bool true)] (fun f w => w0 = w) (by kernel_rfl) (by kernel_rfl) (fun f hf => ?_) ?_ ?_
    · rfl
    · exact ⟨RS.StepE.pure 138 (by kernel_rfl) rfl (fun w => by kernel_rfl) (fun f w h => h),
        RS.StepE.pure 139 (by kernel_rfl) rfl (fun w => by kernel_rfl) (fun f w h => h),
        RS.StepE.load 140 (.bool true) (by kernel_rfl) (by kernel_rfl) rfl (fun f w h => h) (fun f w p1 p2 h => n_gtr (a := m) (b := mid) (r := true) (decide_eq_true (show mid < m from by omega)) rfl (by kernel_rfl) (by kernel_rfl)), trivial⟩
    rintro f wx hf rfl
    clear hf
    (try simp only [RS.sets, List.setIfInBounds_toArray, List.set_cons_zero, List.set_cons_succ])
    go_upto_region 28 with (fail)
    refine RS.wp_textE [(141, .int .i64 ((mid + m : Nat) : Int)), (142, .int .i64 ((b : Nat) : Int)), (143, .int .i64 (((mid + m) - b : Nat) : Int)), (20, .int .i64 (((mid + m) - b : Nat) : Int))] (fun f w => w0 = w) (by kernel_rfl) (by kernel_rfl) (fun f hf => ?_) ?_ ?_
    · rfl
    · exact ⟨RS.StepE.pure 141 (by kernel_rfl) rfl (fun w => by kernel_rfl) (fun f w h => h),
        RS.StepE.pure 142 (by kernel_rfl) rfl (fun w => by kernel_rfl) (fun f w h => h),
        RS.StepE.load 143 (.int .i64 (((mid + m) - b : Nat) : Int)) (by kernel_rfl) (by kernel_rfl) rfl (fun f w h => h) (fun f w p1 p2 h => n_sub (by omega) (by omega) rfl (by kernel_rfl) (by kernel_rfl)),
        RS.StepE.pure 20 (by kernel_rfl) rfl (fun w => by kernel_rfl) (fun f w h => h), trivial⟩
    rintro f wx hf rfl
    clear hf
    (try simp only [RS.sets, List.setIfInBounds_toArray, List.set_cons_zero, List.set_cons_succ])
    go_upto_region 29 with (fail)
    refine RS.wp_textE [(144, .int .i64 ((mid : Nat) : Int)), (21, .int .i64 ((mid : Nat) : Int))] (fun f w => w0 = w) (by kernel_rfl) (by kernel_rfl) (fun f hf => ?_) ?_ ?_
    · rfl
    · exact ⟨RS.StepE.pure 144 (by kernel_rfl) rfl (fun w => by kernel_rfl) (fun f w h => h),
        RS.StepE.pure 21 (by kernel_rfl) rfl (fun w => by kernel_rfl) (fun f w h => h), trivial⟩
    rintro f wx hf rfl
    clear hf
    (try simp only [RS.sets, List.setIfInBounds_toArray, List.set_cons_zero, List.set_cons_succ])
    go_upto_region 32 with (fail)
    refine RS.wp_textE [(147, .int .i64 ((mid + m : Nat) : Int)), (148, .int .i64 (((mid + m) - 1 : Nat) : Int)), (22, .int .i64 (((mid + m) - 1 : Nat) : Int))] (fun f w => w0 = w) (by kernel_rfl) (by kernel_rfl) (fun f hf => ?_) ?_ ?_
    · rfl
    · exact ⟨RS.StepE.pure 147 (by kernel_rfl) rfl (fun w => by kernel_rfl) (fun f w h => h),
        RS.StepE.load 148 (.int .i64 (((mid + m) - 1 : Nat) : Int)) (by kernel_rfl) (by kernel_rfl) rfl (fun f w h => h) (fun f w p1 p2 h => n_sub (by omega) (by omega) rfl (by kernel_rfl) (by kernel_rfl)),
        RS.StepE.pure 22 (by kernel_rfl) rfl (fun w => by kernel_rfl) (fun f w h => h), trivial⟩
    rintro f wx hf rfl
    clear hf
    (try simp only [RS.sets, List.setIfInBounds_toArray, List.set_cons_zero, List.set_cons_succ])
    go_upto_region 33 with (fail)
    go_loopw [20, 21] (fun t u wr => ∃ i j : Nat, t = .int .i64 (i : Int) ∧ u = .int .i64 (j : Int) ∧ s0 ≤ i ∧ i ≤ j ∧ j ≤ r0 ∧ (i = s0 ∨ ¬ (cur.getD (mid + m - 1 - (i - 1)) z38).f1 < (cur.getD (i - 1) z38).f1) ∧ (j = r0 ∨ (cur.getD (mid + m - 1 - j) z38).f1 < (cur.getD j z38).f1) ∧ SW w0 base g cap cur wr) (fun t u _ => (intOf u - intOf t).toNat)
    case atStart => exact ⟨s0, r0, by rw [q2], by rw [q3], Nat.le_refl _, g2, Nat.le_refl _, .inl rfl, .inl rfl, SW.start H.out⟩
    case round =>
      obtain ⟨i, j, rfl, rfl, hi, hij, hj, p1, p2, hs⟩ := hrel
      have HS := Aside0.mk hs
      have Q1 := Aside0.mk p1
      have Q2 := Aside0.mk p2
      clear hs p1 p2
      by_cases hlt : i < j
      · go_upto_region 33 with (fail)
        refine RS.wp_textE [(149, .int .i64 ((i : Nat) : Int)), (150, .int .i64 ((j : Nat) : Int)), (151, .bool true)] (fun f w => wr = w) (by kernel_rfl) (by kernel_rfl) (fun f hf => ?_) ?_ ?_
        · rfl
        · exact ⟨RS.StepE.pure 149 (by kernel_rfl) rfl (fun w => by kernel_rfl) (fun f w h => h),
            RS.StepE.pure 150 (by kernel_rfl) rfl (fun w => by kernel_rfl) (fun f w h => h),
            RS.StepE.load 151 (.bool true) (by kernel_rfl) (by kernel_rfl) rfl (fun f w h => h) (fun f w p1 p2 h => n_lss (a := i) (b := j) (r := true) (decide_eq_true (show i < j from by omega)) rfl (by kernel_rfl) (by kernel_rfl)), trivial⟩
        rintro f wx hf rfl
        clear hf
        (try simp only [RS.sets, List.setIfInBounds_toArray, List.set_cons_zero, List.set_cons_succ])
        go_upto_region 34 with (fail)
        refine RS.wp_textE [(152, .int .i64 ((i : Nat) : Int)), (153, .int .i64 ((j : Nat) : Int)), (154, .int .i64 ((i + j : Nat) : Int)), (155, .int .u64 ((i + j : Nat) : Int)), (156, .int .u64 (((i + j) / 2 : Nat) : Int)), (157, .int .i64 (((i + j) / 2 : Nat) : Int)), (23, .int .i64 (((i + j) / 2 : Nat) : Int))] (fun f w => wr = w) (by kernel_rfl) (by kernel_rfl) (fun f hf => ?_) ?_ ?_
        · rfl
        · exact ⟨RS.StepE.pure 152 (by kernel_rfl) rfl (fun w => by kernel_rfl) (fun f w h => h),
            RS.StepE.pure 153 (by kernel_rfl) rfl (fun w => by kernel_rfl) (fun f w h => h),
            RS.StepE.load 154 (.int .i64 ((i + j : Nat) : Int)) (by kernel_rfl) (by kernel_rfl) rfl (fun f w h => h) (fun f w p1 p2 h => n_add (by omega) rfl (by kernel_rfl) (by kernel_rfl)),
            RS.StepE.load 155 (.int .u64 ((i + j : Nat) : Int)) (by kernel_rfl) (by kernel_rfl) rfl (fun f w h => h) (fun f w p1 p2 h => n_conv (by omega) Try.underlying3 Try.underlying81 rfl (by kernel_rfl)),
            RS.StepE.load 156 (.int .u64 (((i + j) / 2 : Nat) : Int)) (by kernel_rfl) (by kernel_rfl) rfl (fun f w h => h) (fun f w p1 p2 h => n_shr (by omega) rfl (by kernel_rfl) (by kernel_rfl)),
            RS.StepE.load 157 (.int .i64 (((i + j) / 2 : Nat) : Int)) (by kernel_rfl) (by kernel_rfl) rfl (fun f w h => h) (fun f w p1 p2 h => n_back (by omega) Try.underlying81 Try.underlying3 rfl (by kernel_rfl)),
            RS.StepE.pure 23 (by kernel_rfl) rfl (fun w => by kernel_rfl) (fun f w h => h), trivial⟩
        rintro f wx hf rfl
        clear hf
        (try simp only [RS.sets, List.setIfInBounds_toArray, List.set_cons_zero, List.set_cons_succ])
        by_cases hc : (cur.getD (mid + m - 1 - ((i + j) / 2)) z38).f1 < (cur.getD ((i + j) / 2) z38).f1
        · have HC2 := Aside0.mk hc
          clear hc
          go_upto_region 35 with (fail)
          refine RS.wp_events (by kernel_rfl) [(158, .func (.func 30) #[] #[]), (159, .slice (some ⟨g, 0, none⟩) n cap), (160, .int .i64 (((mid + m) - 1 : Nat) : Int)), (161, .int .i64 (((i + j) / 2 : Nat) : Int)), (162, .int .i64 ((((mid + m) - 1) - ((i + j) / 2) : Nat) : Int)), (163, .pointer (some ⟨g, (((mid + m) - 1) - ((i + j) / 2)) * 4, none⟩)), (164, .agg (encS ((cur).getD (((mid + m) - 1) - ((i + j) / 2)) z38))), (165, .slice (some ⟨g, 0, none⟩) n cap), (166, .int .i64 (((i + j) / 2 : Nat) : Int)), (167, .pointer (some ⟨g, ((i + j) / 2) * 4, none⟩)), (168, .agg (encS ((cur).getD ((i + j) / 2) z38))), (169, .int .i64 (cmpI (cur.getD (mid + m - 1 - ((i + j) / 2)) z38).f1 (cur.getD ((i + j) / 2) z38).f1)), (170, .bool true), (171, .bool false)] (fun f w => SW w0 base g cap (cur) w) (by kernel_rfl) (by kernel_rfl) (fun f hf => ?_) ?_ ?_
          · exact HS.out.drew
          · exact ⟨RS.StepE.pure 158 (by kernel_rfl) rfl (fun w => by kernel_rfl) (fun f w h => h),
              RS.StepE.pure 159 (by kernel_rfl) rfl (fun w => by kernel_rfl) (fun f w h => h),
              RS.StepE.pure 160 (by kernel_rfl) rfl (fun w => by kernel_rfl) (fun f w h => h),
              RS.StepE.pure 161 (by kernel_rfl) rfl (fun w => by kernel_rfl) (fun f w h => h),
              RS.StepE.load 162 (.int .i64 ((((mid + m) - 1) - ((i + j) / 2) : Nat) : Int)) (by kernel_rfl) (by kernel_rfl) rfl (fun f w h => h) (fun f w p1 p2 h => n_sub (by omega) (by omega) rfl (by kernel_rfl) (by kernel_rfl)),
              RS.StepE.load 163 (.pointer (some ⟨g, (((mid + m) - 1) - ((i + j) / 2)) * 4, none⟩)) (by kernel_rfl) (by kernel_rfl) rfl (fun f w h => h) (fun f w p1 p2 h => SB.index (n := n) (cap := cap) (i := ((mid + m) - 1) - ((i + j) / 2)) (by omega) rfl (by kernel_rfl) (by kernel_rfl)),
              RS.StepE.load 164 (.agg (encS ((cur).getD (((mid + m) - 1) - ((i + j) / 2)) z38))) (by kernel_rfl) (by kernel_rfl) rfl (fun f w h => h) (fun f w p1 p2 h => (show SB _ g _ (cur) w from by exact h.2).load (i := ((mid + m) - 1) - ((i + j) / 2)) (by have := HL.out; omega) rfl (by kernel_rfl)),
              RS.StepE.pure 165 (by kernel_rfl) rfl (fun w => by kernel_rfl) (fun f w h => h),
              RS.StepE.pure 166 (by kernel_rfl) rfl (fun w => by kernel_rfl) (fun f w h => h),
              RS.StepE.load 167 (.pointer (some ⟨g, ((i + j) / 2) * 4, none⟩)) (by kernel_rfl) (by kernel_rfl) rfl (fun f w h => h) (fun f w p1 p2 h => SB.index (n := n) (cap := cap) (i := (i + j) / 2) (by omega) rfl (by kernel_rfl) (by kernel_rfl)),
              RS.StepE.load 168 (.agg (encS ((cur).getD ((i + j) / 2) z38))) (by kernel_rfl) (by kernel_rfl) rfl (fun f w h => h) (fun f w p1 p2 h => (show SB _ g _ (cur) w from by exact h.2).load (i := (i + j) / 2) (by have := HL.out; omega) rfl (by kernel_rfl)),
              RS.StepE.call 169 30 #[.agg (encS (cur.getD (mid + m - 1 - ((i + j) / 2)) z38)), .agg (encS (cur.getD ((i + j) / 2) z38))] (.int .i64 (cmpI (cur.getD (mid + m - 1 - ((i + j) / 2)) z38).f1 (cur.getD ((i + j) / 2) z38).f1)) (by kernel_rfl) (by kernel_rfl) rfl (fun w => by kernel_rfl) (fun f w h0 p1 p2 h => (cmp_calls (cur.getD (mid + m - 1 - ((i + j) / 2)) z38) (cur.getD ((i + j) / 2) z38) w).mono (by rintro e w' ⟨rfl, hb⟩; exact ⟨rfl, h.below hb⟩)),
              RS.StepE.load 170 (.bool true) (by kernel_rfl) (by kernel_rfl) rfl (fun f w h => h) (fun f w p1 p2 h => i_lss (a := cmpI (cur.getD (mid + m - 1 - ((i + j) / 2)) z38).f1 (cur.getD ((i + j) / 2) z38).f1) (b := 0) (cmp_yes (HC2.out)) rfl (by kernel_rfl) (by kernel_rfl)),
              RS.StepE.pure 171 (by kernel_rfl) rfl (fun w => by kernel_rfl) (fun f w h => h), trivial⟩
          rintro f w1 hf hs
          have H1 := Aside0.mk hs
          clear hf hs
          (try simp only [RS.sets, List.setIfInBounds_toArray, List.set_cons_zero, List.set_cons_succ])
          go_upto_region 37 with (fail)
          refine RS.wp_textE [(174, .int .i64 (((i + j) / 2 : Nat) : Int)), (21, .int .i64 (((i + j) / 2 : Nat) : Int))] (fun f w => w1 = w) (by kernel_rfl) (by kernel_rfl) (fun f hf => ?_) ?_ ?_
          · rfl
          · exact ⟨RS.StepE.pure 174 (by kernel_rfl) rfl (fun w => by kernel_rfl) (fun f w h => h),
              RS.StepE.pure 21 (by kernel_rfl) rfl (fun w => by kernel_rfl) (fun f w h => h), trivial⟩
          rintro f wx hf rfl
          clear hf
          (try simp only [RS.sets, List.setIfInBounds_toArray, List.set_cons_zero, List.set_cons_succ])
          go_wp2_with fail
          exact ⟨⟨i, (i + j) / 2, rfl, rfl, hi, by omega, by omega, Q1.out, .inr HC2.out, H1.out⟩, by simp [intOf]; omega⟩
        · have HC2 := Aside0.mk hc
          clear hc
          go_upto_region 35 with (fail)
          refine RS.wp_events (by kernel_rfl) [(158, .func (.func 30) #[] #[]), (159, .slice (some ⟨g, 0, none⟩) n cap), (160, .int .i64 (((mid + m) - 1 : Nat) : Int)), (161, .int .i64 (((i + j) / 2 : Nat) : Int)), (162, .int .i64 ((((mid + m) - 1) - ((i + j) / 2) : Nat) : Int)), (163, .pointer (some ⟨g, (((mid + m) - 1) - ((i + j) / 2)) * 4, none⟩)), (164, .agg (encS ((cur).getD (((mid + m) - 1) - ((i + j) / 2)) z38))), (165, .slice (some ⟨g, 0, none⟩) n cap), (166, .int .i64 (((i + j) / 2 : Nat) : Int)), (167, .pointer (some ⟨g, ((i + j) / 2) * 4, none⟩)), (168, .agg (encS ((cur).getD ((i + j) / 2) z38))), (169, .int .i64 (cmpI (cur.getD (mid + m - 1 - ((i + j) / 2)) z38).f1 (cur.getD ((i + j) / 2) z38).f1)), (170, .bool false), (171, .bool true)] (fun f w => SW w0 base g cap (cur) w) (by kernel_rfl) (by kernel_rfl) (fun f hf => ?_) ?_ ?_
          · exact HS.out.drew
          · exact ⟨RS.StepE.pure 158 (by kernel_rfl) rfl (fun w => by kernel_rfl) (fun f w h => h),
              RS.StepE.pure 159 (by kernel_rfl) rfl (fun w => by kernel_rfl) (fun f w h => h),
              RS.StepE.pure 160 (by kernel_rfl) rfl (fun w => by kernel_rfl) (fun f w h => h),
              RS.StepE.pure 161 (by kernel_rfl) rfl (fun w => by kernel_rfl) (fun f w h => h),
              RS.StepE.load 162 (.int .i64 ((((mid + m) - 1) - ((i + j) / 2) : Nat) : Int)) (by kernel_rfl) (by kernel_rfl) rfl (fun f w h => h) (fun f w p1 p2 h => n_sub (by omega) (by omega) rfl (by kernel_rfl) (by kernel_rfl)),
              RS.StepE.load 163 (.pointer (some ⟨g, (((mid + m) - 1) - ((i + j) / 2)) * 4, none⟩)) (by kernel_rfl) (by kernel_rfl) rfl (fun f w h => h) (fun f w p1 p2 h => SB.index (n := n) (cap := cap) (i := ((mid + m) - 1) - ((i + j) / 2)) (by omega) rfl (by kernel_rfl) (by kernel_rfl)),
              RS.StepE.load 164 (.agg (encS ((cur).getD (((mid + m) - 1) - ((i + j) / 2)) z38))) (by kernel_rfl) (by kernel_rfl) rfl (fun f w h => h) (fun f w p1 p2 h => (show SB _ g _ (cur) w from by exact h.2).load (i := ((mid + m) - 1) - ((i + j) / 2)) (by have := HL.out; omega) rfl (by kernel_rfl)),
              RS.StepE.pure 165 (by kernel_rfl) rfl (fun w => by kernel_rfl) (fun f w h => h),
              RS.StepE.pure 166 (by kernel_rfl) rfl (fun w => by kernel_rfl) (fun f w h => h),
              RS.StepE.load 167 (.pointer (some ⟨g, ((i + j) / 2) * 4, none⟩)) (by kernel_rfl) (by kernel_rfl) rfl (fun f w h => h) (fun f w p1 p2 h => SB.index (n := n) (cap := cap) (i := (i + j) / 2) (by omega) rfl (by kernel_rfl) (by kernel_rfl)),
              RS.StepE.load 168 (.agg (encS ((cur).getD ((i + j) / 2) z38))) (by kernel_rfl) (by kernel_rfl) rfl (fun f w h => h) (fun f w p1 p2 h => (show SB _ g _ (cur) w from by exact h.2).load (i := (i + j) / 2) (by have := HL.out; omega) rfl (by kernel_rfl)),
              RS.StepE.call 169 30 #[.agg (encS (cur.getD (mid + m - 1 - ((i + j) / 2)) z38)), .agg (encS (cur.getD ((i + j) / 2) z38))] (.int .i64 (cmpI (cur.getD (mid + m - 1 - ((i + j) / 2)) z38).f1 (cur.getD ((i + j) / 2) z38).f1)) (by kernel_rfl) (by kernel_rfl) rfl (fun w => by kernel_rfl) (fun f w h0 p1 p2 h => (cmp_calls (cur.getD (mid + m - 1 - ((i + j) / 2)) z38) (cur.getD ((i + j) / 2) z38) w).mono (by rintro e w' ⟨rfl, hb⟩; exact ⟨rfl, h.below hb⟩)),
              RS.StepE.load 170 (.bool false) (by kernel_rfl) (by kernel_rfl) rfl (fun f w h => h) (fun f w p1 p2 h => i_lss (a := cmpI (cur.getD (mid + m - 1 - ((i + j) / 2)) z38).f1 (cur.getD ((i + j) / 2) z38).f1) (b := 0) (cmp_no (HC2.out)) rfl (by kernel_rfl) (by kernel_rfl)),
              RS.StepE.pure 171 (by kernel_rfl) rfl (fun w => by kernel_rfl) (fun f w h => h), trivial⟩
          rintro f w1 hf hs
          have H1 := Aside0.mk hs
          clear hf hs
          (try simp only [RS.sets, List.setIfInBounds_toArray, List.set_cons_zero, List.set_cons_succ])
          go_upto_region 36 with (fail)
          refine RS.wp_textE [(172, .int .i64 (((i + j) / 2 : Nat) : Int)), (173, .int .i64 (((i + j) / 2 + 1 : Nat) : Int)), (20, .int .i64 (((i + j) / 2 + 1 : Nat) : Int))] (fun f w => w1 = w) (by kernel_rfl) (by kernel_rfl) (fun f hf => ?_) ?_ ?_
          · rfl
          · exact ⟨RS.StepE.pure 172 (by kernel_rfl) rfl (fun w => by kernel_rfl) (fun f w h => h),
              RS.StepE.load 173 (.int .i64 (((i + j) / 2 + 1 : Nat) : Int)) (by kernel_rfl) (by kernel_rfl) rfl (fun f w h => h) (fun f w p1 p2 h => n_add (by omega) rfl (by kernel_rfl) (by kernel_rfl)),
              RS.StepE.pure 20 (by kernel_rfl) rfl (fun w => by kernel_rfl) (fun f w h => h), trivial⟩
          rintro f wx hf rfl
          clear hf
          (try simp only [RS.sets, List.setIfInBounds_toArray, List.set_cons_zero, List.set_cons_succ])
          go_wp2_with fail
          exact ⟨⟨(i + j) / 2 + 1, j, rfl, rfl, by omega, by omega, hj, .inr HC2.out, Q2.out, H1.out⟩, by simp [intOf]; omega⟩
      · have hie : j = i := by omega
        subst hie
        go_upto_region 33 with (fail)
        refine RS.wp_textE [(149, .int .i64 ((j : Nat) : Int)), (150, .int .i64 ((j : Nat) : Int)), (151, .bool false)] (fun f w => wr = w) (by kernel_rfl) (by kernel_rfl) (fun f hf => ?_) ?_ ?_
        · rfl
        · exact ⟨RS.StepE.pure 149 (by kernel_rfl) rfl (fun w => by kernel_rfl) (fun f w h => h),
            RS.StepE.pure 150 (by kernel_rfl) rfl (fun w => by kernel_rfl) (fun f w h => h),
            RS.StepE.load 151 (.bool false) (by kernel_rfl) (by kernel_rfl) rfl (fun f w h => h) (fun f w p1 p2 h => n_lss (a := j) (b := j) (r := false) (decide_eq_false (show ¬ (j < j) from by omega)) rfl (by kernel_rfl) (by kernel_rfl)), trivial⟩
        rintro f wx hf rfl
        clear hf
        (try simp only [RS.sets, List.setIfInBounds_toArray, List.set_cons_zero, List.set_cons_succ])
        go_upto_region 38 with (fail)
        refine RS.wp_textE [(175, .int .i64 ((mid + m : Nat) : Int)), (176, .int .i64 ((j : Nat) : Int)), (177, .int .i64 (((mid + m) - j : Nat) : Int)), (24, .int .i64 (((mid + m) - j : Nat) : Int))] (fun f w => wr = w) (by kernel_rfl) (by kernel_rfl) (fun f hf => ?_) ?_ ?_
        · rfl
        · exact ⟨RS.StepE.pure 175 (by kernel_rfl) rfl (fun w => by kernel_rfl) (fun f w h => h),
            RS.StepE.pure 176 (by kernel_rfl) rfl (fun w => by kernel_rfl) (fun f w h => h),
            RS.StepE.load 177 (.int .i64 (((mid + m) - j : Nat) : Int)) (by kernel_rfl) (by kernel_rfl) rfl (fun f w h => h) (fun f w p1 p2 h => n_sub (by omega) (by omega) rfl (by kernel_rfl) (by kernel_rfl)),
            RS.StepE.pure 24 (by kernel_rfl) rfl (fun w => by kernel_rfl) (fun f w h => h), trivial⟩
        rintro f wx hf rfl
        clear hf
        (try simp only [RS.sets, List.setIfInBounds_toArray, List.set_cons_zero, List.set_cons_succ])
        have hall : a ≤ j ∧ j ≤ m ∧ j ≤ mid ∧ m ≤ mid + m - j ∧ mid + m - j ≤ b := by omega
        have HPT := Aside0.mk (mid_parts HC.out HA.out HM.out HB.out hall)
        have HTN := Aside0.mk (turn_ok (cur := cur) HC.out.symm HA.out HM.out HB.out HMID.out SA.out SBB.out hall
          (by rcases Q1.out with q | q
              · left; omega
              · by_cases e : j = a
                · left; left; exact e
                · right; rw [show mid + m - j = mid + m - 1 - (j - 1) by omega]; exact q)
          (by rcases Q2.out with q | q
              · left; omega
              · right; exact q))
        have hsa := SA.out
        have hsb := SBB.out
        rw [← List.take_append_drop (j - a) A] at hsa
        rw [← List.take_append_drop (mid + m - j - m) B] at hsb
        have HSA := Aside0.mk hsa
        have HSB := Aside0.mk hsb
        have hAT := List.take_append_drop (j - a) A
        have hBT := List.take_append_drop (mid + m - j - m) B
        generalize A.take (j - a) = A1 at *
        generalize A.drop (j - a) = A2 at *
        generalize B.take (mid + m - j - m) = B1 at *
        generalize B.drop (mid + m - j - m) = B2 at *
        have HAT := Aside0.mk hAT
        have HBT := Aside0.mk hBT
        clear hsa hsb hAT hBT
        obtain ⟨ecur, l1, l2, l3, l4, l5⟩ := HPT.out
        have EC := Aside0.mk ecur
        clear ecur HPT
        have HS1 := HS
        rw [EC.out] at HS1
        rcases (show (j < m ∧ m < mid + m - j) ∨ (j < m ∧ ¬ m < mid + m - j) ∨ ¬ j < m by omega) with hrq | hrq | hrq
        · go_upto_region 39 with (fail)
          refine RS.wp_textE [(178, .int .i64 ((j : Nat) : Int)), (179, .int .i64 ((m : Nat) : Int)), (180, .bool true), (181, .bool true), (182, .int .i64 ((m : Nat) : Int)), (183, .int .i64 (((mid + m) - j : Nat) : Int)), (184, .bool true), (185, .bool true)] (fun f w => wr = w) (by kernel_rfl) (by kernel_rfl) (fun f hf => ?_) ?_ ?_
          · rfl
          · exact ⟨RS.StepE.pure 178 (by kernel_rfl) rfl (fun w => by kernel_rfl) (fun f w h => h),
              RS.StepE.pure 179 (by kernel_rfl) rfl (fun w => by kernel_rfl) (fun f w h => h),
              RS.StepE.load 180 (.bool true) (by kernel_rfl) (by kernel_rfl) rfl (fun f w h => h) (fun f w p1 p2 h => n_lss (a := j) (b := m) (r := true) (decide_eq_true (show j < m from by omega)) rfl (by kernel_rfl) (by kernel_rfl)),
              RS.StepE.pure 181 (by kernel_rfl) rfl (fun w => by kernel_rfl) (fun f w h => h),
              RS.StepE.pure 182 (by kernel_rfl) rfl (fun w => by kernel_rfl) (fun f w h => h),
              RS.StepE.pure 183 (by kernel_rfl) rfl (fun w => by kernel_rfl) (fun f w h => h),
              RS.StepE.load 184 (.bool true) (by kernel_rfl) (by kernel_rfl) rfl (fun f w h => h) (fun f w p1 p2 h => n_lss (a := m) (b := (mid + m) - j) (r := true) (decide_eq_true (show m < (mid + m) - j from by omega)) rfl (by kernel_rfl) (by kernel_rfl)),
              RS.StepE.pure 185 (by kernel_rfl) rfl (fun w => by kernel_rfl) (fun f w h => h), trivial⟩
          rintro f wx hf rfl
          clear hf
          (try simp only [RS.sets, List.setIfInBounds_toArray, List.set_cons_zero, List.set_cons_succ])
          go_upto_region 40 with (fail)
          refine RS.wp_textE [(186, .slice (some ⟨g, 0, none⟩) n cap), (187, .int .i64 ((j : Nat) : Int)), (188, .int .i64 ((m : Nat) : Int)), (189, .int .i64 (((mid + m) - j : Nat) : Int)), (190, .func (.func 30) #[] #[]), (191, .tuple #[])] (fun f w => SW w0 base g cap (bif f 5 then P ++ A1 ++ (B1 ++ (A2 ++ (B2 ++ S))) else P ++ A1 ++ (A2 ++ (B1 ++ (B2 ++ S)))) w) (by kernel_rfl) (by kernel_rfl) (fun f hf => ?_) ?_ ?_
          · simp only [hf 5 (by decide), cond_false]
            exact HS1.out
          · exact ⟨RS.StepE.pure 186 (by kernel_rfl) rfl (fun w => by kernel_rfl) (fun f w h => h),
              RS.StepE.pure 187 (by kernel_rfl) rfl (fun w => by kernel_rfl) (fun f w h => h),
              RS.StepE.pure 188 (by kernel_rfl) rfl (fun w => by kernel_rfl) (fun f w h => h),
              RS.StepE.pure 189 (by kernel_rfl) rfl (fun w => by kernel_rfl) (fun f w h => h),
              RS.StepE.pure 190 (by kernel_rfl) rfl (fun w => by kernel_rfl) (fun f w h => h),
              RS.StepE.call 191 44 #[.slice (some ⟨g, 0, none⟩) n cap, .int .i64 ((j : Nat) : Int), .int .i64 ((m : Nat) : Int), .int .i64 ((mid + m - j : Nat) : Int), .func (.func 30) #[] #[]] (.tuple #[]) (by kernel_rfl) (by kernel_rfl) rfl (fun w => by kernel_rfl) (fun f w h0 p1 p2 h => by
              have h0 : f 5 = false := h0
              simp only [h0, cond_false] at h
              refine (rotate_calls base g cap n j m (mid + m - j) (P ++ A1) A2 B1 (B2 ++ S) w h.2 (by rw [← EC.out]; exact HL.out) l1 (by rw [l1, l3]; omega) (by rw [l1, l3, l4]; omega) (by omega) (by omega) hm).mono ?_
              rintro e w' ⟨rfl, h'⟩
              exact ⟨rfl, h.1.trans h'.1, h'.2⟩), trivial⟩
          rintro f w2 hf hs
          simp only [hf, cond_true] at hs
          have HR := Aside0.mk hs
          clear hf hs
          (try simp only [RS.sets, List.setIfInBounds_toArray, List.set_cons_zero, List.set_cons_succ])
          have hr2 : P ++ A1 ++ (B1 ++ (A2 ++ (B2 ++ S))) = P ++ (A1 ++ (B1 ++ (A2 ++ (B2 ++ S)))) := by simp
          rw [hr2] at HR
          clear hr2
          by_cases hp : a < j
          · go_upto_region 41 with (fail)
            refine RS.wp_textE [(192, .int .i64 ((a : Nat) : Int)), (193, .int .i64 ((j : Nat) : Int)), (194, .bool true), (195, .bool true), (196, .int .i64 ((j : Nat) : Int)), (197, .int .i64 ((mid : Nat) : Int)), (198, .bool true), (199, .bool true)] (fun f w => w2 = w) (by kernel_rfl) (by kernel_rfl) (fun f hf => ?_) ?_ ?_
            · rfl
            · exact ⟨RS.StepE.pure 192 (by kernel_rfl) rfl (fun w => by kernel_rfl) (fun f w h => h),
                RS.StepE.pure 193 (by kernel_rfl) rfl (fun w => by kernel_rfl) (fun f w h => h),
                RS.StepE.load 194 (.bool true) (by kernel_rfl) (by kernel_rfl) rfl (fun f w h => h) (fun f w p1 p2 h => n_lss (a := a) (b := j) (r := true) (decide_eq_true (show a < j from by omega)) rfl (by kernel_rfl) (by kernel_rfl)),
                RS.StepE.pure 195 (by kernel_rfl) rfl (fun w => by kernel_rfl) (fun f w h => h),
                RS.StepE.pure 196 (by kernel_rfl) rfl (fun w => by kernel_rfl) (fun f w h => h),
                RS.StepE.pure 197 (by kernel_rfl) rfl (fun w => by kernel_rfl) (fun f w h => h),
                RS.StepE.load 198 (.bool true) (by kernel_rfl) (by kernel_rfl) rfl (fun f w h => h) (fun f w p1 p2 h => n_lss (a := j) (b := mid) (r := true) (decide_eq_true (show j < mid from by omega)) rfl (by kernel_rfl) (by kernel_rfl)),
                RS.StepE.pure 199 (by kernel_rfl) rfl (fun w => by kernel_rfl) (fun f w h => h), trivial⟩
            rintro f wx hf rfl
            clear hf
            (try simp only [RS.sets, List.setIfInBounds_toArray, List.set_cons_zero, List.set_cons_succ])
            go_upto_region 42 with (fail)
            refine RS.wp_textE [(200, .slice (some ⟨g, 0, none⟩) n cap), (201, .int .i64 ((a : Nat) : Int)), (202, .int .i64 ((j : Nat) : Int)), (203, .int .i64 ((mid : Nat) : Int)), (204, .func (.func 30) #[] #[]), (205, .tuple #[])] (fun f w => (f 5 = false → SW w0 base g cap (P ++ (A1 ++ (B1 ++ (A2 ++ (B2 ++ S))))) w) ∧ (f 5 = true → ∃ C, SS (A1 ++ B1) C ∧ SW w0 base g cap (P ++ (C ++ (A2 ++ (B2 ++ S)))) w)) (by kernel_rfl) (by kernel_rfl) (fun f hf => ?_) ?_ ?_
            · exact ⟨fun _ => HR.out, fun e => by rw [hf 5 (by decide)] at e; cases e⟩
            · exact ⟨RS.StepE.pure 200 (by kernel_rfl) rfl (fun w => by kernel_rfl) (fun f w h => h),
                RS.StepE.pure 201 (by kernel_rfl) rfl (fun w => by kernel_rfl) (fun f w h => h),
                RS.StepE.pure 202 (by kernel_rfl) rfl (fun w => by kernel_rfl) (fun f w h => h),
                RS.StepE.pure 203 (by kernel_rfl) rfl (fun w => by kernel_rfl) (fun f w h => h),
                RS.StepE.pure 204 (by kernel_rfl) rfl (fun w => by kernel_rfl) (fun f w h => h),
                RS.StepE.call 205 43 #[.slice (some ⟨g, 0, none⟩) n cap, .int .i64 ((a : Nat) : Int), .int .i64 ((j : Nat) : Int), .int .i64 ((mid : Nat) : Int), .func (.func 30) #[] #[]] (.tuple #[]) (by kernel_rfl) (by kernel_rfl) rfl (fun w => by kernel_rfl) (fun f w h0 p1 p2 h => by
                have h := h.1 h0
                refine (IH.out a j mid P A1 B1 (A2 ++ (B2 ++ S)) w (by omega) h.2 (by have := HL.out; rw [EC.out] at this; simp only [List.length_append] at this ⊢; omega) HA.out (by rw [HA.out, l2]; omega) (by rw [HA.out, l2, l4]; omega) (by omega) (by omega) (srt_left HSA.out) (srt_left HSB.out)).mono ?_
                rintro e w' ⟨rfl, C, hC, h'⟩
                exact ⟨rfl, fun e => by simp [RS.upd] at e, fun _ => ⟨C, hC, h.1.trans h'.1, h'.2⟩⟩), trivial⟩
            rintro f w3 hf hs
            obtain ⟨C1, hC1, hs⟩ := hs.2 (hf 5)
            have HC1 := Aside0.mk hC1
            have HM1 := Aside0.mk hs
            clear hf hs hC1
            (try simp only [RS.sets, List.setIfInBounds_toArray, List.set_cons_zero, List.set_cons_succ])
            have lC1 : C1.length = mid - a := by rw [HC1.out.length, List.length_append, l2, l4]; omega
            have lPC : (P ++ C1).length = mid := by rw [List.length_append, lC1, HA.out]; omega
            by_cases hsb : mid + m - j < b
            · go_upto_region 43 with (fail)
              refine RS.wp_textE [(206, .int .i64 ((mid : Nat) : Int)), (207, .int .i64 (((mid + m) - j : Nat) : Int)), (208, .bool true), (209, .bool true), (210, .int .i64 (((mid + m) - j : Nat) : Int)), (211, .int .i64 ((b : Nat) : Int)), (212, .bool true), (213, .bool true)] (fun f w => w3 = w) (by kernel_rfl) (by kernel_rfl) (fun f hf => ?_) ?_ ?_
              · rfl
              · exact ⟨RS.StepE.pure 206 (by kernel_rfl) rfl (fun w => by kernel_rfl) (fun f w h => h),
                  RS.StepE.pure 207 (by kernel_rfl) rfl (fun w => by kernel_rfl) (fun f w h => h),
                  RS.StepE.load 208 (.bool true) (by kernel_rfl) (by kernel_rfl) rfl (fun f w h => h) (fun f w p1 p2 h => n_lss (a := mid) (b := (mid + m) - j) (r := true) (decide_eq_true (show mid < (mid + m) - j from by omega)) rfl (by kernel_rfl) (by kernel_rfl)),
                  RS.StepE.pure 209 (by kernel_rfl) rfl (fun w => by kernel_rfl) (fun f w h => h),
                  RS.StepE.pure 210 (by kernel_rfl) rfl (fun w => by kernel_rfl) (fun f w h => h),
                  RS.StepE.pure 211 (by kernel_rfl) rfl (fun w => by kernel_rfl) (fun f w h => h),
                  RS.StepE.load 212 (.bool true) (by kernel_rfl) (by kernel_rfl) rfl (fun f w h => h) (fun f w p1 p2 h => n_lss (a := (mid + m) - j) (b := b) (r := true) (decide_eq_true (show (mid + m) - j < b from by omega)) rfl (by kernel_rfl) (by kernel_rfl)),
                  RS.StepE.pure 213 (by kernel_rfl) rfl (fun w => by kernel_rfl) (fun f w h => h), trivial⟩
              rintro f wx hf rfl
              clear hf
              (try simp only [RS.sets, List.setIfInBounds_toArray, List.set_cons_zero, List.set_cons_succ])
              go_upto_region 44 with (fail)
              refine RS.wp_textE [(214, .slice (some ⟨g, 0, none⟩) n cap), (215, .int .i64 ((mid : Nat) : Int)), (216, .int .i64 (((mid + m) - j : Nat) : Int)), (217, .int .i64 ((b : Nat) : Int)), (218, .func (.func 30) #[] #[]), (219, .tuple #[])] (fun f w => (f 5 = false → SW w0 base g cap (P ++ (C1 ++ (A2 ++ (B2 ++ S)))) w) ∧ (f 5 = true → ∃ C, SS (A2 ++ B2) C ∧ SW w0 base g cap (P ++ (C1 ++ (C ++ S))) w)) (by kernel_rfl) (by kernel_rfl) (fun f hf => ?_) ?_ ?_
              · exact ⟨fun _ => HM1.out, fun e => by rw [hf 5 (by decide)] at e; cases e⟩
              · exact ⟨RS.StepE.pure 214 (by kernel_rfl) rfl (fun w => by kernel_rfl) (fun f w h => h),
                  RS.StepE.pure 215 (by kernel_rfl) rfl (fun w => by kernel_rfl) (fun f w h => h),
                  RS.StepE.pure 216 (by kernel_rfl) rfl (fun w => by kernel_rfl) (fun f w h => h),
                  RS.StepE.pure 217 (by kernel_rfl) rfl (fun w => by kernel_rfl) (fun f w h => h),
                  RS.StepE.pure 218 (by kernel_rfl) rfl (fun w => by kernel_rfl) (fun f w h => h),
                  RS.StepE.call 219 43 #[.slice (some ⟨g, 0, none⟩) n cap, .int .i64 ((mid : Nat) : Int), .int .i64 ((mid + m - j : Nat) : Int), .int .i64 ((b : Nat) : Int), .func (.func 30) #[] #[]] (.tuple #[]) (by kernel_rfl) (by kernel_rfl) rfl (fun w => by kernel_rfl) (fun f w h0 p1 p2 h => by
                  have h := h.1 h0
                  have h2 := h.2
                  rw [← List.append_assoc P] at h2
                  refine (IH.out mid (mid + m - j) b (P ++ C1) A2 B2 S w (by omega) h2 (by have := HL.out; rw [EC.out] at this; simp only [List.length_append] at this ⊢; omega) lPC (by rw [lPC, l3]; omega) (by rw [lPC, l3, l5]; omega) (by omega) (by omega) (srt_right HSA.out) (srt_right HSB.out)).mono ?_
                  rintro e w' ⟨rfl, C, hC, h'⟩
                  rw [List.append_assoc] at h'
                  exact ⟨rfl, fun e => by simp [RS.upd] at e, fun _ => ⟨C, hC, h.1.trans h'.1, h'.2⟩⟩), trivial⟩
              rintro f w4 hf hs
              obtain ⟨C2, hC2, hs⟩ := hs.2 (hf 5)
              have HC2' := Aside0.mk hC2
              have HM2 := Aside0.mk hs
              clear hf hs hC2
              (try simp only [RS.sets, List.setIfInBounds_toArray, List.set_cons_zero, List.set_cons_succ])
              go_wp2_with fail
              first | go_end0 | (refine bodyPost_ret (results_none rfl _ _ _) rfl ?_)
              refine ⟨rfl, C1 ++ C2, ?_, ?_⟩
              · rw [← HAT.out, ← HBT.out]
                exact SS.turn HSA.out HSB.out HTN.out.1 HTN.out.2 HC1.out HC2'.out
              · rw [List.append_assoc]
                exact HM2.out
            · go_upto_region 43 with (fail)
              refine RS.wp_textE [(206, .int .i64 ((mid : Nat) : Int)), (207, .int .i64 (((mid + m) - j : Nat) : Int)), (208, .bool true), (209, .bool true), (210, .int .i64 (((mid + m) - j : Nat) : Int)), (211, .int .i64 ((b : Nat) : Int)), (212, .bool false), (213, .bool false)] (fun f w => w3 = w) (by kernel_rfl) (by kernel_rfl) (fun f hf => ?_) ?_ ?_
              · rfl
              · exact ⟨RS.StepE.pure 206 (by kernel_rfl) rfl (fun w => by kernel_rfl) (fun f w h => h),
                  RS.StepE.pure 207 (by kernel_rfl) rfl (fun w => by kernel_rfl) (fun f w h => h),
                  RS.StepE.load 208 (.bool true) (by kernel_rfl) (by kernel_rfl) rfl (fun f w h => h) (fun f w p1 p2 h => n_lss (a := mid) (b := (mid + m) - j) (r := true) (decide_eq_true (show mid < (mid + m) - j from by omega)) rfl (by kernel_rfl) (by kernel_rfl)),
                  RS.StepE.pure 209 (by kernel_rfl) rfl (fun w => by kernel_rfl) (fun f w h => h),
                  RS.StepE.pure 210 (by kernel_rfl) rfl (fun w => by kernel_rfl) (fun f w h => h),
                  RS.StepE.pure 211 (by kernel_rfl) rfl (fun w => by kernel_rfl) (fun f w h => h),
                  RS.StepE.load 212 (.bool false) (by kernel_rfl) (by kernel_rfl) rfl (fun f w h => h) (fun f w p1 p2 h => n_lss (a := (mid + m) - j) (b := b) (r := false) (decide_eq_false (show ¬ ((mid + m) - j < b) from by omega)) rfl (by kernel_rfl) (by kernel_rfl)),
                  RS.StepE.pure 213 (by kernel_rfl) rfl (fun w => by kernel_rfl) (fun f w h => h), trivial⟩
              rintro f wx hf rfl
              clear hf
              (try simp only [RS.sets, List.setIfInBounds_toArray, List.set_cons_zero, List.set_cons_succ])
              go_wp2_with fail
              first | go_end0 | (refine bodyPost_ret (results_none rfl _ _ _) rfl ?_)
              refine ⟨rfl, C1 ++ (A2 ++ B2), ?_, ?_⟩
              · rw [← HAT.out, ← HBT.out]
                exact SS.turn HSA.out HSB.out HTN.out.1 HTN.out.2 HC1.out (SS.whole (srt_right HSA.out) (srt_right HSB.out) (.inr (List.eq_nil_of_length_eq_zero (by omega))))
              · rw [List.append_assoc]
                exact (by have := HM1.out; simpa using this)
          · go_upto_region 41 with (fail)
            refine RS.wp_textE [(192, .int .i64 ((a : Nat) : Int)), (193, .int .i64 ((j : Nat) : Int)), (194, .bool false), (195, .bool false), (196, undef), (197, undef), (198, undef), (199, .bool false)] (fun f w => w2 = w) (by kernel_rfl) (by kernel_rfl) (fun f hf => ?_) ?_ ?_
            · rfl
            · exact ⟨RS.StepE.pure 192 (by kernel_rfl) rfl (fun w => by kernel_rfl) (fun f w h => h),
                RS.StepE.pure 193 (by kernel_rfl) rfl (fun w => by kernel_rfl) (fun f w h => h),
                RS.StepE.load 194 (.bool false) (by kernel_rfl) (by kernel_rfl) rfl (fun f w h => h) (fun f w p1 p2 h => n_lss (a := a) (b := j) (r := false) (decide_eq_false (show ¬ (a < j) from by omega)) rfl (by kernel_rfl) (by kernel_rfl)),
                RS.StepE.pure 195 (by kernel_rfl) rfl (fun w => by kernel_rfl) (fun f w h => h),
                RS.StepE.off 196 (by kernel_rfl) rfl (by kernel_rfl) (fun f w h => h),
                RS.StepE.off 197 (by kernel_rfl) rfl (by kernel_rfl) (fun f w h => h),
                RS.StepE.off 198 (by kernel_rfl) rfl (by kernel_rfl) (fun f w h => h),
                RS.StepE.pure 199 (by kernel_rfl) rfl (fun w => by kernel_rfl) (fun f w h => h), trivial⟩
            rintro f wx hf rfl
            clear hf
            (try simp only [RS.sets, List.setIfInBounds_toArray, List.set_cons_zero, List.set_cons_succ])
            obtain ⟨C1, hC1⟩ : ∃ C1, A1 ++ B1 = C1 := ⟨_, rfl⟩
            have HC1 := Aside0.mk (SS.whole (srt_left HSA.out) (srt_left HSB.out) (.inl (List.eq_nil_of_length_eq_zero (by omega))))
            have HM1 := HR
            rw [← List.append_assoc A1, hC1] at HM1
            have HC1 := Aside0.mk (show SS (A1 ++ B1) C1 by rw [← hC1]; exact HC1.out)
            clear hC1
            have lC1 : C1.length = mid - a := by rw [HC1.out.length, List.length_append, l2, l4]; omega
            have lPC : (P ++ C1).length = mid := by rw [List.length_append, lC1, HA.out]; omega
            by_cases hsb : mid + m - j < b
            · go_upto_region 43 with (fail)
              refine RS.wp_textE [(206, .int .i64 ((mid : Nat) : Int)), (207, .int .i64 (((mid + m) - j : Nat) : Int)), (208, .bool true), (209, .bool true), (210, .int .i64 (((mid + m) - j : Nat) : Int)), (211, .int .i64 ((b : Nat) : Int)), (212, .bool true), (213, .bool true)] (fun f w => w2 = w) (by kernel_rfl) (by kernel_rfl) (fun f hf => ?_) ?_ ?_
              · rfl
              · exact ⟨RS.StepE.pure 206 (by kernel_rfl) rfl (fun w => by kernel_rfl) (fun f w h => h),
                  RS.StepE.pure 207 (by kernel_rfl) rfl (fun w => by kernel_rfl) (fun f w h => h),
                  RS.StepE.load 208 (.bool true) (by kernel_rfl) (by kernel_rfl) rfl (fun f w h => h) (fun f w p1 p2 h => n_lss (a := mid) (b := (mid + m) - j) (r := true) (decide_eq_true (show mid < (mid + m) - j from by omega)) rfl (by kernel_rfl) (by kernel_rfl)),
                  RS.StepE.pure 209 (by kernel_rfl) rfl (fun w => by kernel_rfl) (fun f w h => h),
                  RS.StepE.pure 210 (by kernel_rfl) rfl (fun w => by kernel_rfl) (fun f w h => h),
                  RS.StepE.pure 211 (by kernel_rfl) rfl (fun w => by kernel_rfl) (fun f w h => h),
                  RS.StepE.load 212 (.bool true) (by kernel_rfl) (by kernel_rfl) rfl (fun f w h => h) (fun f w p1 p2 h => n_lss (a := (mid + m) - j) (b := b) (r := true) (decide_eq_true (show (mid + m) - j < b from by omega)) rfl (by kernel_rfl) (by kernel_rfl)),
                  RS.StepE.pure 213 (by kernel_rfl) rfl (fun w => by kernel_rfl) (fun f w h => h), trivial⟩
              rintro f wx hf rfl
              clear hf
              (try simp only [RS.sets, List.setIfInBounds_toArray, List.set_cons_zero, List.set_cons_succ])
              go_upto_region 44 with (fail)
              refine RS.wp_textE [(214, .slice (some ⟨g, 0, none⟩) n cap), (215, .int .i64 ((mid : Nat) : Int)), (216, .int .i64 (((mid + m) - j : Nat) : Int)), (217, .int .i64 ((b : Nat) : Int)), (218, .func (.func 30) #[] #[]), (219, .tuple #[])] (fun f w => (f 5 = false → SW w0 base g cap (P ++ (C1 ++ (A2 ++ (B2 ++ S)))) w) ∧ (f 5 = true → ∃ C, SS (A2 ++ B2) C ∧ SW w0 base g cap (P ++ (C1 ++ (C ++ S))) w)) (by kernel_rfl) (by kernel_rfl) (fun f hf => ?_) ?_ ?_
              · exact ⟨fun _ => HM1.out, fun e => by rw [hf 5 (by decide)] at e; cases e⟩
              · exact ⟨RS.StepE.pure 214 (by kernel_rfl) rfl (fun w => by kernel_rfl) (fun f w h => h),
                  RS.StepE.pure 215 (by kernel_rfl) rfl (fun w => by kernel_rfl) (fun f w h => h),
                  RS.StepE.pure 216 (by kernel_rfl) rfl (fun w => by kernel_rfl) (fun f w h => h),
                  RS.StepE.pure 217 (by kernel_rfl) rfl (fun w => by kernel_rfl) (fun f w h => h),
                  RS.StepE.pure 218 (by kernel_rfl) rfl (fun w => by kernel_rfl) (fun f w h => h),
                  RS.StepE.call 219 43 #[.slice (some ⟨g, 0, none⟩) n cap, .int .i64 ((mid : Nat) : Int), .int .i64 ((mid + m - j : Nat) : Int), .int .i64 ((b : Nat) : Int), .func (.func 30) #[] #[]] (.tuple #[]) (by kernel_rfl) (by kernel_rfl) rfl (fun w => by kernel_rfl) (fun f w h0 p1 p2 h => by
                  have h := h.1 h0
                  have h2 := h.2
                  rw [← List.append_assoc P] at h2
                  refine (IH.out mid (mid + m - j) b (P ++ C1) A2 B2 S w (by omega) h2 (by have := HL.out; rw [EC.out] at this; simp only [List.length_append] at this ⊢; omega) lPC (by rw [lPC, l3]; omega) (by rw [lPC, l3, l5]; omega) (by omega) (by omega) (srt_right HSA.out) (srt_right HSB.out)).mono ?_
                  rintro e w' ⟨rfl, C, hC, h'⟩
                  rw [List.append_assoc] at h'
                  exact ⟨rfl, fun e => by simp [RS.upd] at e, fun _ => ⟨C, hC, h.1.trans h'.1, h'.2⟩⟩), trivial⟩
              rintro f w4 hf hs
              obtain ⟨C2, hC2, hs⟩ := hs.2 (hf 5)
              have HC2' := Aside0.mk hC2
              have HM2 := Aside0.mk hs
              clear hf hs hC2
              (try simp only [RS.sets, List.setIfInBounds_toArray, List.set_cons_zero, List.set_cons_succ])
              go_wp2_with fail
              first | go_end0 | (refine bodyPost_ret (results_none rfl _ _ _) rfl ?_)
              refine ⟨rfl, C1 ++ C2, ?_, ?_⟩
              · rw [← HAT.out, ← HBT.out]
                exact SS.turn HSA.out HSB.out HTN.out.1 HTN.out.2 HC1.out HC2'.out
              · rw [List.append_assoc]
                exact HM2.out
            · go_upto_region 43 with (fail)
              refine RS.wp_textE [(206, .int .i64 ((mid : Nat) : Int)), (207, .int .i64 (((mid + m) - j : Nat) : Int)), (208, .bool true), (209, .bool true), (210, .int .i64 (((mid + m) - j : Nat) : Int)), (211, .int .i64 ((b : Nat) : Int)), (212, .bool false), (213, .bool false)] (fun f w => w2 = w) (by kernel_rfl) (by kernel_rfl) (fun f hf => ?_) ?_ ?_
              · rfl
              · exact ⟨RS.StepE.pure 206 (by kernel_rfl) rfl (fun w => by kernel_rfl) (fun f w h => h),
                  RS.StepE.pure 207 (by kernel_rfl) rfl (fun w => by kernel_rfl) (fun f w h => h),
                  RS.StepE.load 208 (.bool true) (by kernel_rfl) (by kernel_rfl) rfl (fun f w h => h) (fun f w p1 p2 h => n_lss (a := mid) (b := (mid + m) - j) (r := true) (decide_eq_true (show mid < (mid + m) - j from by omega)) rfl (by kernel_rfl) (by kernel_rfl)),
                  RS.StepE.pure 209 (by kernel_rfl) rfl (fun w => by kernel_rfl) (fun f w h => h),
                  RS.StepE.pure 210 (by kernel_rfl) rfl (fun w => by kernel_rfl) (fun f w h => h),
                  RS.StepE.pure 211 (by kernel_rfl) rfl (fun w => by kernel_rfl) (fun f w h => h),
                  RS.StepE.load 212 (.bool false) (by kernel_rfl) (by kernel_rfl) rfl (fun f w h => h) (fun f w p1 p2 h => n_lss (a := (mid + m) - j) (b := b) (r := false) (decide_eq_false (show ¬ ((mid + m) - j < b) from by omega)) rfl (by kernel_rfl) (by kernel_rfl)),
                  RS.StepE.pure 213 (by kernel_rfl) rfl (fun w => by kernel_rfl) (fun f w h => h), trivial⟩
              rintro f wx hf rfl
              clear hf
              (try simp only [RS.sets, List.setIfInBounds_toArray, List.set_cons_zero, List.set_cons_succ])
              go_wp2_with fail
              first | go_end0 | (refine bodyPost_ret (results_none rfl _ _ _) rfl ?_)
              refine ⟨rfl, C1 ++ (A2 ++ B2), ?_, ?_⟩
              · rw [← HAT.out, ← HBT.out]
                exact SS.turn HSA.out HSB.out HTN.out.1 HTN.out.2 HC1.out (SS.whole (srt_right HSA.out) (srt_right HSB.out) (.inr (List.eq_nil_of_length_eq_zero (by omega))))
              · rw [List.append_assoc]
                exact (by have := HM1.out; simpa using this)
        · go_upto_region 39 with (fail)
          refine RS.wp_textE [(178, .int .i64 ((j : Nat) : Int)), (179, .int .i64 ((m : Nat) : Int)), (180, .bool true), (181, .bool true), (182, .int .i64 ((m : Nat) : Int)), (183, .int .i64 (((mid + m) - j : Nat) : Int)), (184, .bool false), (185, .bool false)] (fun f w => wr = w) (by kernel_rfl) (by kernel_rfl) (fun f hf => ?_) ?_ ?_
          · rfl
          · exact ⟨RS.StepE.pure 178 (by kernel_rfl) rfl (fun w => by kernel_rfl) (fun f w h => h),
              RS.StepE.pure 179 (by kernel_rfl) rfl (fun w => by kernel_rfl) (fun f w h => h),
              RS.StepE.load 180 (.bool true) (by kernel_rfl) (by kernel_rfl) rfl (fun f w h => h) (fun f w p1 p2 h => n_lss (a := j) (b := m) (r := true) (decide_eq_true (show j < m from by omega)) rfl (by kernel_rfl) (by kernel_rfl)),
              RS.StepE.pure 181 (by kernel_rfl) rfl (fun w => by kernel_rfl) (fun f w h => h),
              RS.StepE.pure 182 (by kernel_rfl) rfl (fun w => by kernel_rfl) (fun f w h => h),
              RS.StepE.pure 183 (by kernel_rfl) rfl (fun w => by kernel_rfl) (fun f w h => h),
              RS.StepE.load 184 (.bool false) (by kernel_rfl) (by kernel_rfl) rfl (fun f w h => h) (fun f w p1 p2 h => n_lss (a := m) (b := (mid + m) - j) (r := false) (decide_eq_false (show ¬ (m < (mid + m) - j) from by omega)) rfl (by kernel_rfl) (by kernel_rfl)),
              RS.StepE.pure 185 (by kernel_rfl) rfl (fun w => by kernel_rfl) (fun f w h => h), trivial⟩
          rintro f wx hf rfl
          clear hf
          (try simp only [RS.sets, List.setIfInBounds_toArray, List.set_cons_zero, List.set_cons_succ])
          have HR := HS1
          rw [turn_none (.inr (List.eq_nil_of_length_eq_zero (by omega)))] at HR
          have hr2 : P ++ A1 ++ (B1 ++ (A2 ++ (B2 ++ S))) = P ++ (A1 ++ (B1 ++ (A2 ++ (B2 ++ S)))) := by simp
          rw [hr2] at HR
          clear hr2
          by_cases hp : a < j
          · go_upto_region 41 with (fail)
            refine RS.wp_textE [(192, .int .i64 ((a : Nat) : Int)), (193, .int .i64 ((j : Nat) : Int)), (194, .bool true), (195, .bool true), (196, .int .i64 ((j : Nat) : Int)), (197, .int .i64 ((mid : Nat) : Int)), (198, .bool false), (199, .bool false)] (fun f w => wr = w) (by kernel_rfl) (by kernel_rfl) (fun f hf => ?_) ?_ ?_
            · rfl
            · exact ⟨RS.StepE.pure 192 (by kernel_rfl) rfl (fun w => by kernel_rfl) (fun f w h => h),
                RS.StepE.pure 193 (by kernel_rfl) rfl (fun w => by kernel_rfl) (fun f w h => h),
                RS.StepE.load 194 (.bool true) (by kernel_rfl) (by kernel_rfl) rfl (fun f w h => h) (fun f w p1 p2 h => n_lss (a := a) (b := j) (r := true) (decide_eq_true (show a < j from by omega)) rfl (by kernel_rfl) (by kernel_rfl)),
                RS.StepE.pure 195 (by kernel_rfl) rfl (fun w => by kernel_rfl) (fun f w h => h),
                RS.StepE.pure 196 (by kernel_rfl) rfl (fun w => by kernel_rfl) (fun f w h => h),
                RS.StepE.pure 197 (by kernel_rfl) rfl (fun w => by kernel_rfl) (fun f w h => h),
                RS.StepE.load 198 (.bool false) (by kernel_rfl) (by kernel_rfl) rfl (fun f w h => h) (fun f w p1 p2 h => n_lss (a := j) (b := mid) (r := false) (decide_eq_false (show ¬ (j < mid) from by omega)) rfl (by kernel_rfl) (by kernel_rfl)),
                RS.StepE.pure 199 (by kernel_rfl) rfl (fun w => by kernel_rfl) (fun f w h => h), trivial⟩
            rintro f wx hf rfl
            clear hf
            (try simp only [RS.sets, List.setIfInBounds_toArray, List.set_cons_zero, List.set_cons_succ])
            obtain ⟨C1, hC1⟩ : ∃ C1, A1 ++ B1 = C1 := ⟨_, rfl⟩
            have HC1 := Aside0.mk (SS.whole (srt_left HSA.out) (srt_left HSB.out) (.inr (List.eq_nil_of_length_eq_zero (by omega))))
            have HM1 := HR
            rw [← List.append_assoc A1, hC1] at HM1
            have HC1 := Aside0.mk (show SS (A1 ++ B1) C1 by rw [← hC1]; exact HC1.out)
            clear hC1
            have lC1 : C1.length = mid - a := by rw [HC1.out.length, List.length_append, l2, l4]; omega
            have lPC : (P ++ C1).length = mid := by rw [List.length_append, lC1, HA.out]; omega
            by_cases hsb : mid + m - j < b
            · go_upto_region 43 with (fail)
              refine RS.wp_textE [(206, .int .i64 ((mid : Nat) : Int)), (207, .int .i64 (((mid + m) - j : Nat) : Int)), (208, .bool true), (209, .bool true), (210, .int .i64 (((mid + m) - j : Nat) : Int)), (211, .int .i64 ((b : Nat) : Int)), (212, .bool true), (213, .bool true)] (fun f w => wr = w) (by kernel_rfl) (by kernel_rfl) (fun f hf => ?_) ?_ ?_
              · rfl
              · exact ⟨RS.StepE.pure 206 (by kernel_rfl) rfl (fun w => by kernel_rfl) (fun f w h => h),
                  RS.StepE.pure 207 (by kernel_rfl) rfl (fun w => by kernel_rfl) (fun f w h => h),
                  RS.StepE.load 208 (.bool true) (by kernel_rfl) (by kernel_rfl) rfl (fun f w h => h) (fun f w p1 p2 h => n_lss (a := mid) (b := (mid + m) - j) (r := true) (decide_eq_true (show mid < (mid + m) - j from by omega)) rfl (by kernel_rfl) (by kernel_rfl)),
                  RS.StepE.pure 209 (by kernel_rfl) rfl (fun w => by kernel_rfl) (fun f w h => h),
                  RS.StepE.pure 210 (by kernel_rfl) rfl (fun w => by kernel_rfl) (fun f w h => h),
                  RS.StepE.pure 211 (by kernel_rfl) rfl (fun w => by kernel_rfl) (fun f w h => h),
                  RS.StepE.load 212 (.bool true) (by kernel_rfl) (by kernel_rfl) rfl (fun f w h => h) (fun f w p1 p2 h => n_lss (a := (mid + m) - j) (b := b) (r := true) (decide_eq_true (show (mid + m) - j < b from by omega)) rfl (by kernel_rfl) (by kernel_rfl)),
                  RS.StepE.pure 213 (by kernel_rfl) rfl (fun w => by kernel_rfl) (fun f w h => h), trivial⟩
              rintro f wx hf rfl
              clear hf
              (try simp only [RS.sets, List.setIfInBounds_toArray, List.set_cons_zero, List.set_cons_succ])
              go_upto_region 44 with (fail)
              refine RS.wp_textE [(214, .slice (some ⟨g, 0, none⟩) n cap), (215, .int .i64 ((mid : Nat) : Int)), (216, .int .i64 (((mid + m) - j : Nat) : Int)), (217, .int .i64 ((b : Nat) : Int)), (218, .func (.func 30) #[] #[]), (219, .tuple #[])] (fun f w => (f 5 = false → SW w0 base g cap (P ++ (C1 ++ (A2 ++ (B2 ++ S)))) w) ∧ (f 5 = true → ∃ C, SS (A2 ++ B2) C ∧ SW w0 base g cap (P ++ (C1 ++ (C ++ S))) w)) (by kernel_rfl) (by kernel_rfl) (fun f hf => ?_) ?_ ?_
              · exact ⟨fun _ => HM1.out, fun e => by rw [hf 5 (by decide)] at e; cases e⟩
              · exact ⟨RS.StepE.pure 214 (by kernel_rfl) rfl (fun w => by kernel_rfl) (fun f w h => h),
                  RS.StepE.pure 215 (by kernel_rfl) rfl (fun w => by kernel_rfl) (fun f w h => h),
                  RS.StepE.pure 216 (by kernel_rfl) rfl (fun w => by kernel_rfl) (fun f w h => h),
                  RS.StepE.pure 217 (by kernel_rfl) rfl (fun w => by kernel_rfl) (fun f w h => h),
                  RS.StepE.pure 218 (by kernel_rfl) rfl (fun w => by kernel_rfl) (fun f w h => h),
                  RS.StepE.call 219 43 #[.slice (some ⟨g, 0, none⟩) n cap, .int .i64 ((mid : Nat) : Int), .int .i64 ((mid + m - j : Nat) : Int), .int .i64 ((b : Nat) : Int), .func (.func 30) #[] #[]] (.tuple #[]) (by kernel_rfl) (by kernel_rfl) rfl (fun w => by kernel_rfl) (fun f w h0 p1 p2 h => by
                  have h := h.1 h0
                  have h2 := h.2
                  rw [← List.append_assoc P] at h2
                  refine (IH.out mid (mid + m - j) b (P ++ C1) A2 B2 S w (by omega) h2 (by have := HL.out; rw [EC.out] at this; simp only [List.length_append] at this ⊢; omega) lPC (by rw [lPC, l3]; omega) (by rw [lPC, l3, l5]; omega) (by omega) (by omega) (srt_right HSA.out) (srt_right HSB.out)).mono ?_
                  rintro e w' ⟨rfl, C, hC, h'⟩
                  rw [List.append_assoc] at h'
                  exact ⟨rfl, fun e => by simp [RS.upd] at e, fun _ => ⟨C, hC, h.1.trans h'.1, h'.2⟩⟩), trivial⟩
              rintro f w4 hf hs
              obtain ⟨C2, hC2, hs⟩ := hs.2 (hf 5)
              have HC2' := Aside0.mk hC2
              have HM2 := Aside0.mk hs
              clear hf hs hC2
              (try simp only [RS.sets, List.setIfInBounds_toArray, List.set_cons_zero, List.set_cons_succ])
              go_wp2_with fail
              first | go_end0 | (refine bodyPost_ret (results_none rfl _ _ _) rfl ?_)
              refine ⟨rfl, C1 ++ C2, ?_, ?_⟩
              · rw [← HAT.out, ← HBT.out]
                exact SS.turn HSA.out HSB.out HTN.out.1 HTN.out.2 HC1.out HC2'.out
              · rw [List.append_assoc]
                exact HM2.out
            · go_upto_region 43 with (fail)
              refine RS.wp_textE [(206, .int .i64 ((mid : Nat) : Int)), (207, .int .i64 (((mid + m) - j : Nat) : Int)), (208, .bool true), (209, .bool true), (210, .int .i64 (((mid + m) - j : Nat) : Int)), (211, .int .i64 ((b : Nat) : Int)), (212, .bool false), (213, .bool false)] (fun f w => wr = w) (by kernel_rfl) (by kernel_rfl) (fun f hf => ?_) ?_ ?_
              · rfl
              · exact ⟨RS.StepE.pure 206 (by kernel_rfl) rfl (fun w => by kernel_rfl) (fun f w h => h),
                  RS.StepE.pure 207 (by kernel_rfl) rfl (fun w => by kernel_rfl) (fun f w h => h),
                  RS.StepE.load 208 (.bool true) (by kernel_rfl) (by kernel_rfl) rfl (fun f w h => h) (fun f w p1 p2 h => n_lss (a := mid) (b := (mid + m) - j) (r := true) (decide_eq_true (show mid < (mid + m) - j from by omega)) rfl (by kernel_rfl) (by kernel_rfl)),
                  RS.StepE.pure 209 (by kernel_rfl) rfl (fun w => by kernel_rfl) (fun f w h => h),
                  RS.StepE.pure 210 (by kernel_rfl) rfl (fun w => by kernel_rfl) (fun f w h => h),
                  RS.StepE.pure 211 (by kernel_rfl) rfl (fun w => by kernel_rfl) (fun f w h => h),
                  RS.StepE.load 212 (.bool false) (by kernel_rfl) (by kernel_rfl) rfl (fun f w h => h) (fun f w p1 p2 h => n_lss (a := (mid + m) - j) (b := b) (r := false) (decide_eq_false (show ¬ ((mid + m) - j < b) from by omega)) rfl (by kernel_rfl) (by kernel_rfl)),
                  RS.StepE.pure 213 (by kernel_rfl) rfl (fun w => by kernel_rfl) (fun f w h => h), trivial⟩
              rintro f wx hf rfl
              clear hf
              (try simp only [RS.sets, List.setIfInBounds_toArray, List.set_cons_zero, List.set_cons_succ])
              go_wp2_with fail
              first | go_end0 | (refine bodyPost_ret (results_none rfl _ _ _) rfl ?_)
              refine ⟨rfl, C1 ++ (A2 ++ B2), ?_, ?_⟩
              · rw [← HAT.out, ← HBT.out]
                exact SS.turn HSA.out HSB.out HTN.out.1 HTN.out.2 HC1.out (SS.whole (srt_right HSA.out) (srt_right HSB.out) (.inr (List.eq_nil_of_length_eq_zero (by omega))))
              · rw [List.append_assoc]
                exact (by have := HM1.out; simpa using this)
          · go_upto_region 41 with (fail)
            refine RS.wp_textE [(192, .int .i64 ((a : Nat) : Int)), (193, .int .i64 ((j : Nat) : Int)), (194, .bool false), (195, .bool false), (196, undef), (197, undef), (198, undef), (199, .bool false)] (fun f w => wr = w) (by kernel_rfl) (by kernel_rfl) (fun f hf => ?_) ?_ ?_
            · rfl
            · exact ⟨RS.StepE.pure 192 (by kernel_rfl) rfl (fun w => by kernel_rfl) (fun f w h => h),
                RS.StepE.pure 193 (by kernel_rfl) rfl (fun w => by kernel_rfl) (fun f w h => h),
                RS.StepE.load 194 (.bool false) (by kernel_rfl) (by kernel_rfl) rfl (fun f w h => h) (fun f w p1 p2 h => n_lss (a := a) (b := j) (r := false) (decide_eq_false (show ¬ (a < j) from by omega)) rfl (by kernel_rfl) (by kernel_rfl)),
                RS.StepE.pure 195 (by kernel_rfl) rfl (fun w => by kernel_rfl) (fun f w h => h),
                RS.StepE.off 196 (by kernel_rfl) rfl (by kernel_rfl) (fun f w h => h),
                RS.StepE.off 197 (by kernel_rfl) rfl (by kernel_rfl) (fun f w h => h),
                RS.StepE.off 198 (by kernel_rfl) rfl (by kernel_rfl) (fun f w h => h),
                RS.StepE.pure 199 (by kernel_rfl) rfl (fun w => by kernel_rfl) (fun f w h => h), trivial⟩
            rintro f wx hf rfl
            clear hf
            (try simp only [RS.sets, List.setIfInBounds_toArray, List.set_cons_zero, List.set_cons_succ])
            obtain ⟨C1, hC1⟩ : ∃ C1, A1 ++ B1 = C1 := ⟨_, rfl⟩
            have HC1 := Aside0.mk (SS.whole (srt_left HSA.out) (srt_left HSB.out) (.inl (List.eq_nil_of_length_eq_zero (by omega))))
            have HM1 := HR
            rw [← List.append_assoc A1, hC1] at HM1
            have HC1 := Aside0.mk (show SS (A1 ++ B1) C1 by rw [← hC1]; exact HC1.out)
            clear hC1
            have lC1 : C1.length = mid - a := by rw [HC1.out.length, List.length_append, l2, l4]; omega
            have lPC : (P ++ C1).length = mid := by rw [List.length_append, lC1, HA.out]; omega
            by_cases hsb : mid + m - j < b
            · go_upto_region 43 with (fail)
              refine RS.wp_textE [(206, .int .i64 ((mid : Nat) : Int)), (207, .int .i64 (((mid + m) - j : Nat) : Int)), (208, .bool true), (209, .bool true), (210, .int .i64 (((mid + m) - j : Nat) : Int)), (211, .int .i64 ((b : Nat) : Int)), (212, .bool true), (213, .bool true)] (fun f w => wr = w) (by kernel_rfl) (by kernel_rfl) (fun f hf => ?_) ?_ ?_
              · rfl
              · exact ⟨RS.StepE.pure 206 (by kernel_rfl) rfl (fun w => by kernel_rfl) (fun f w h => h),
                  RS.StepE.pure 207 (by kernel_rfl) rfl (fun w => by kernel_rfl) (fun f w h => h),
                  RS.StepE.load 208 (.bool true) (by kernel_rfl) (by kernel_rfl) rfl (fun f w h => h) (fun f w p1 p2 h => n_lss (a := mid) (b := (mid + m) - j) (r := true) (decide_eq_true (show mid < (mid + m) - j from by omega)) rfl (by kernel_rfl) (by kernel_rfl)),
                  RS.StepE.pure 209 (by kernel_rfl) rfl (fun w => by kernel_rfl) (fun f w h => h),
                  RS.StepE.pure 210 (by kernel_rfl) rfl (fun w => by kernel_rfl) (fun f w h => h),
                  RS.StepE.pure 211 (by kernel_rfl) rfl (fun w => by kernel_rfl) (fun f w h => h),
                  RS.StepE.load 212 (.bool true) (by kernel_rfl) (by kernel_rfl) rfl (fun f w h => h) (fun f w p1 p2 h => n_lss (a := (mid + m) - j) (b := b) (r := true) (decide_eq_true (show (mid + m) - j < b from by omega)) rfl (by kernel_rfl) (by kernel_rfl)),
                  RS.StepE.pure 213 (by kernel_rfl) rfl (fun w => by kernel_rfl) (fun f w h => h), trivial⟩
              rintro f wx hf rfl
              clear hf
              (try simp only [RS.sets, List.setIfInBounds_toArray, List.set_cons_zero, List.set_cons_succ])
              go_upto_region 44 with (fail)
              refine RS.wp_textE [(214, .slice (some ⟨g, 0, none⟩) n cap), (215, .int .i64 ((mid : Nat) : Int)), (216, .int .i64 (((mid + m) - j : Nat) : Int)), (217, .int .i64 ((b : Nat) : Int)), (218, .func (.func 30) #[] #[]), (219, .tuple #[])] (fun f w => (f 5 = false → SW w0 base g cap (P ++ (C1 ++ (A2 ++ (B2 ++ S)))) w) ∧ (f 5 = true → ∃ C, SS (A2 ++ B2) C ∧ SW w0 base g cap (P ++ (C1 ++ (C ++ S))) w)) (by kernel_rfl) (by kernel_rfl) (fun f hf => ?_) ?_ ?_
              · exact ⟨fun _ => HM1.out, fun e => by rw [hf 5 (by decide)] at e; cases e⟩
              · exact ⟨RS.StepE.pure 214 (by kernel_rfl) rfl (fun w => by kernel_rfl) (fun f w h => h),
                  RS.StepE.pure 215 (by kernel_rfl) rfl (fun w => by kernel_rfl) (fun f w h => h),
                  RS.StepE.pure 216 (by kernel_rfl) rfl (fun w => by kernel_rfl) (fun f w h => h),
                  RS.StepE.pure 217 (by kernel_rfl) rfl (fun w => by kernel_rfl) (fun f w h => h),
                  RS.StepE.pure 218 (by kernel_rfl) rfl (fun w => by kernel_rfl) (fun f w h => h),
                  RS.StepE.call 219 43 #[.slice (some ⟨g, 0, none⟩) n cap, .int .i64 ((mid : Nat) : Int), .int .i64 ((mid + m - j : Nat) : Int), .int .i64 ((b : Nat) : Int), .func (.func 30) #[] #[]] (.tuple #[]) (by kernel_rfl) (by kernel_rfl) rfl (fun w => by kernel_rfl) (fun f w h0 p1 p2 h => by
                  have h := h.1 h0
                  have h2 := h.2
                  rw [← List.append_assoc P] at h2
                  refine (IH.out mid (mid + m - j) b (P ++ C1) A2 B2 S w (by omega) h2 (by have := HL.out; rw [EC.out] at this; simp only [List.length_append] at this ⊢; omega) lPC (by rw [lPC, l3]; omega) (by rw [lPC, l3, l5]; omega) (by omega) (by omega) (srt_right HSA.out) (srt_right HSB.out)).mono ?_
                  rintro e w' ⟨rfl, C, hC, h'⟩
                  rw [List.append_assoc] at h'
                  exact ⟨rfl, fun e => by simp [RS.upd] at e, fun _ => ⟨C, hC, h.1.trans h'.1, h'.2⟩⟩), trivial⟩
              rintro f w4 hf hs
              obtain ⟨C2, hC2, hs⟩ := hs.2 (hf 5)
              have HC2' := Aside0.mk hC2
              have HM2 := Aside0.mk hs
              clear hf hs hC2
              (try simp only [RS.sets, List.setIfInBounds_toArray, List.set_cons_zero, List.set_cons_succ])
              go_wp2_with fail
              first | go_end0 | (refine bodyPost_ret (results_none rfl _ _ _) rfl ?_)
              refine ⟨rfl, C1 ++ C2, ?_, ?_⟩
              · rw [← HAT.out, ← HBT.out]
                exact SS.turn HSA.out HSB.out HTN.out.1 HTN.out.2 HC1.out HC2'.out
              · rw [List.append_assoc]
                exact HM2.out
            · go_upto_region 43 with (fail)
              refine RS.wp_textE [(206, .int .i64 ((mid : Nat) : Int)), (207, .int .i64 (((mid + m) - j : Nat) : Int)), (208, .bool true), (209, .bool true), (210, .int .i64 (((mid + m) - j : Nat) : Int)), (211, .int .i64 ((b : Nat) : Int)), (212, .bool false), (213, .bool false)] (fun f w => wr = w) (by kernel_rfl) (by kernel_rfl) (fun f hf => ?_) ?_ ?_
              · rfl
              · exact ⟨RS.StepE.pure 206 (by kernel_rfl) rfl (fun w => by kernel_rfl) (fun f w h => h),
                  RS.StepE.pure 207 (by kernel_rfl) rfl (fun w => by kernel_rfl) (fun f w h => h),
                  RS.StepE.load 208 (.bool true) (by kernel_rfl) (by kernel_rfl) rfl (fun f w h => h) (fun f w p1 p2 h => n_lss (a := mid) (b := (mid + m) - j) (r := true) (decide_eq_true (show mid < (mid + m) - j from by omega)) rfl (by kernel_rfl) (by kernel_rfl)),
                  RS.StepE.pure 209 (by kernel_rfl) rfl (fun w => by kernel_rfl) (fun f w h => h),
                  RS.StepE.pure 210 (by kernel_rfl) rfl (fun w => by kernel_rfl) (fun f w h => h),
                  RS.StepE.pure 211 (by kernel_rfl) rfl (fun w => by kernel_rfl) (fun f w h => h),
                  RS.StepE.load 212 (.bool false) (by kernel_rfl) (by kernel_rfl) rfl (fun f w h => h) (fun f w p1 p2 h => n_lss (a := (mid + m) - j) (b := b) (r := false) (decide_eq_false (show ¬ ((mid + m) - j < b) from by omega)) rfl (by kernel_rfl) (by kernel_rfl)),
                  RS.StepE.pure 213 (by kernel_rfl) rfl (fun w => by kernel_rfl) (fun f w h => h), trivial⟩
              rintro f wx hf rfl
              clear hf
              (try simp only [RS.sets, List.setIfInBounds_toArray, List.set_cons_zero, List.set_cons_succ])
              go_wp2_with fail
              first | go_end0 | (refine bodyPost_ret (results_none rfl _ _ _) rfl ?_)
              refine ⟨rfl, C1 ++ (A2 ++ B2), ?_, ?_⟩
              · rw [← HAT.out, ← HBT.out]
                exact SS.turn HSA.out HSB.out HTN.out.1 HTN.out.2 HC1.out (SS.whole (srt_right HSA.out) (srt_right HSB.out) (.inr (List.eq_nil_of_length_eq_zero (by omega))))
              · rw [List.append_assoc]
                exact (by have := HM1.out; simpa using this)
        · go_upto_region 39 with (fail)
          refine RS.wp_textE [(178, .int .i64 ((j : Nat) : Int)), (179, .int .i64 ((m : Nat) : Int)), (180, .bool false), (181, .bool false), (182, undef), (183, undef), (184, undef), (185, .bool false)] (fun f w => wr = w) (by kernel_rfl) (by kernel_rfl) (fun f hf => ?_) ?_ ?_
          · rfl
          · exact ⟨RS.StepE.pure 178 (by kernel_rfl) rfl (fun w => by kernel_rfl) (fun f w h => h),
              RS.StepE.pure 179 (by kernel_rfl) rfl (fun w => by kernel_rfl) (fun f w h => h),
              RS.StepE.load 180 (.bool false) (by kernel_rfl) (by kernel_rfl) rfl (fun f w h => h) (fun f w p1 p2 h => n_lss (a := j) (b := m) (r := false) (decide_eq_false (show ¬ (j < m) from by omega)) rfl (by kernel_rfl) (by kernel_rfl)),
              RS.StepE.pure 181 (by kernel_rfl) rfl (fun w => by kernel_rfl) (fun f w h => h),
              RS.StepE.off 182 (by kernel_rfl) rfl (by kernel_rfl) (fun f w h => h),
              RS.StepE.off 183 (by kernel_rfl) rfl (by kernel_rfl) (fun f w h => h),
              RS.StepE.off 184 (by kernel_rfl) rfl (by kernel_rfl) (fun f w h => h),
              RS.StepE.pure 185 (by kernel_rfl) rfl (fun w => by kernel_rfl) (fun f w h => h), trivial⟩
          rintro f wx hf rfl
          clear hf
          (try simp only [RS.sets, List.setIfInBounds_toArray, List.set_cons_zero, List.set_cons_succ])
          have HR := HS1
          rw [turn_none (.inl (List.eq_nil_of_length_eq_zero (by omega)))] at HR
          have hr2 : P ++ A1 ++ (B1 ++ (A2 ++ (B2 ++ S))) = P ++ (A1 ++ (B1 ++ (A2 ++ (B2 ++ S)))) := by simp
          rw [hr2] at HR
          clear hr2
          by_cases hp : a < j
          · go_upto_region 41 with (fail)
            by_cases hq : j < mid
            · skip
              refine RS.wp_textE [(192, .int .i64 ((a : Nat) : Int)), (193, .int .i64 ((j : Nat) : Int)), (194, .bool true), (195, .bool true), (196, .int .i64 ((j : Nat) : Int)), (197, .int .i64 ((mid : Nat) : Int)), (198, .bool true), (199, .bool true)] (fun f w => wr = w) (by kernel_rfl) (by kernel_rfl) (fun f hf => ?_) ?_ ?_
              · rfl
              · exact ⟨RS.StepE.pure 192 (by kernel_rfl) rfl (fun w => by kernel_rfl) (fun f w h => h),
                  RS.StepE.pure 193 (by kernel_rfl) rfl (fun w => by kernel_rfl) (fun f w h => h),
                  RS.StepE.load 194 (.bool true) (by kernel_rfl) (by kernel_rfl) rfl (fun f w h => h) (fun f w p1 p2 h => n_lss (a := a) (b := j) (r := true) (decide_eq_true (show a < j from by omega)) rfl (by kernel_rfl) (by kernel_rfl)),
                  RS.StepE.pure 195 (by kernel_rfl) rfl (fun w => by kernel_rfl) (fun f w h => h),
                  RS.StepE.pure 196 (by kernel_rfl) rfl (fun w => by kernel_rfl) (fun f w h => h),
                  RS.StepE.pure 197 (by kernel_rfl) rfl (fun w => by kernel_rfl) (fun f w h => h),
                  RS.StepE.load 198 (.bool true) (by kernel_rfl) (by kernel_rfl) rfl (fun f w h => h) (fun f w p1 p2 h => n_lss (a := j) (b := mid) (r := true) (decide_eq_true (show j < mid from by omega)) rfl (by kernel_rfl) (by kernel_rfl)),
                  RS.StepE.pure 199 (by kernel_rfl) rfl (fun w => by kernel_rfl) (fun f w h => h), trivial⟩
              rintro f wx hf rfl
              clear hf
              (try simp only [RS.sets, List.setIfInBounds_toArray, List.set_cons_zero, List.set_cons_succ])
              go_upto_region 42 with (fail)
              refine RS.wp_textE [(200, .slice (some ⟨g, 0, none⟩) n cap), (201, .int .i64 ((a : Nat) : Int)), (202, .int .i64 ((j : Nat) : Int)), (203, .int .i64 ((mid : Nat) : Int)), (204, .func (.func 30) #[] #[]), (205, .tuple #[])] (fun f w => (f 5 = false → SW w0 base g cap (P ++ (A1 ++ (B1 ++ (A2 ++ (B2 ++ S))))) w) ∧ (f 5 = true → ∃ C, SS (A1 ++ B1) C ∧ SW w0 base g cap (P ++ (C ++ (A2 ++ (B2 ++ S)))) w)) (by kernel_rfl) (by kernel_rfl) (fun f hf => ?_) ?_ ?_
              · exact ⟨fun _ => HR.out, fun e => by rw [hf 5 (by decide)] at e; cases e⟩
              · exact ⟨RS.StepE.pure 200 (by kernel_rfl) rfl (fun w => by kernel_rfl) (fun f w h => h),
                  RS.StepE.pure 201 (by kernel_rfl) rfl (fun w => by kernel_rfl) (fun f w h => h),
                  RS.StepE.pure 202 (by kernel_rfl) rfl (fun w => by kernel_rfl) (fun f w h => h),
                  RS.StepE.pure 203 (by kernel_rfl) rfl (fun w => by kernel_rfl) (fun f w h => h),
                  RS.StepE.pure 204 (by kernel_rfl) rfl (fun w => by kernel_rfl) (fun f w h => h),
                  RS.StepE.call 205 43 #[.slice (some ⟨g, 0, none⟩) n cap, .int .i64 ((a : Nat) : Int), .int .i64 ((j : Nat) : Int), .int .i64 ((mid : Nat) : Int), .func (.func 30) #[] #[]] (.tuple #[]) (by kernel_rfl) (by kernel_rfl) rfl (fun w => by kernel_rfl) (fun f w h0 p1 p2 h => by
                  have h := h.1 h0
                  refine (IH.out a j mid P A1 B1 (A2 ++ (B2 ++ S)) w (by omega) h.2 (by have := HL.out; rw [EC.out] at this; simp only [List.length_append] at this ⊢; omega) HA.out (by rw [HA.out, l2]; omega) (by rw [HA.out, l2, l4]; omega) (by omega) (by omega) (srt_left HSA.out) (srt_left HSB.out)).mono ?_
                  rintro e w' ⟨rfl, C, hC, h'⟩
                  exact ⟨rfl, fun e => by simp [RS.upd] at e, fun _ => ⟨C, hC, h.1.trans h'.1, h'.2⟩⟩), trivial⟩
              rintro f w3 hf hs
              obtain ⟨C1, hC1, hs⟩ := hs.2 (hf 5)
              have HC1 := Aside0.mk hC1
              have HM1 := Aside0.mk hs
              clear hf hs hC1
              (try simp only [RS.sets, List.setIfInBounds_toArray, List.set_cons_zero, List.set_cons_succ])
              have lC1 : C1.length = mid - a := by rw [HC1.out.length, List.length_append, l2, l4]; omega
              have lPC : (P ++ C1).length = mid := by rw [List.length_append, lC1, HA.out]; omega
              · go_upto_region 43 with (fail)
                refine RS.wp_textE [(206, .int .i64 ((mid : Nat) : Int)), (207, .int .i64 (((mid + m) - j : Nat) : Int)), (208, .bool false), (209, .bool false), (210, undef), (211, undef), (212, undef), (213, .bool false)] (fun f w => w3 = w) (by kernel_rfl) (by kernel_rfl) (fun f hf => ?_) ?_ ?_
                · rfl
                · exact ⟨RS.StepE.pure 206 (by kernel_rfl) rfl (fun w => by kernel_rfl) (fun f w h => h),
                    RS.StepE.pure 207 (by kernel_rfl) rfl (fun w => by kernel_rfl) (fun f w h => h),
                    RS.StepE.load 208 (.bool false) (by kernel_rfl) (by kernel_rfl) rfl (fun f w h => h) (fun f w p1 p2 h => n_lss (a := mid) (b := (mid + m) - j) (r := false) (decide_eq_false (show ¬ (mid < (mid + m) - j) from by omega)) rfl (by kernel_rfl) (by kernel_rfl)),
                    RS.StepE.pure 209 (by kernel_rfl) rfl (fun w => by kernel_rfl) (fun f w h => h),
                    RS.StepE.off 210 (by kernel_rfl) rfl (by kernel_rfl) (fun f w h => h),
                    RS.StepE.off 211 (by kernel_rfl) rfl (by kernel_rfl) (fun f w h => h),
                    RS.StepE.off 212 (by kernel_rfl) rfl (by kernel_rfl) (fun f w h => h),
                    RS.StepE.pure 213 (by kernel_rfl) rfl (fun w => by kernel_rfl) (fun f w h => h), trivial⟩
                rintro f wx hf rfl
                clear hf
                (try simp only [RS.sets, List.setIfInBounds_toArray, List.set_cons_zero, List.set_cons_succ])
                go_wp2_with fail
                first | go_end0 | (refine bodyPost_ret (results_none rfl _ _ _) rfl ?_)
                refine ⟨rfl, C1 ++ (A2 ++ B2), ?_, ?_⟩
                · rw [← HAT.out, ← HBT.out]
                  exact SS.turn HSA.out HSB.out HTN.out.1 HTN.out.2 HC1.out (SS.whole (srt_right HSA.out) (srt_right HSB.out) (.inl (List.eq_nil_of_length_eq_zero (by omega))))
                · rw [List.append_assoc]
                  exact (by have := HM1.out; simpa using this)
            · skip
              refine RS.wp_textE [(192, .int .i64 ((a : Nat) : Int)), (193, .int .i64 ((j : Nat) : Int)), (194, .bool true), (195, .bool true), (196, .int .i64 ((j : Nat) : Int)), (197, .int .i64 ((mid : Nat) : Int)), (198, .bool false), (199, .bool false)] (fun f w => wr = w) (by kernel_rfl) (by kernel_rfl) (fun f hf => ?_) ?_ ?_
              · rfl
              · exact ⟨RS.StepE.pure 192 (by kernel_rfl) rfl (fun w => by kernel_rfl) (fun f w h => h),
                  RS.StepE.pure 193 (by kernel_rfl) rfl (fun w => by kernel_rfl) (fun f w h => h),
                  RS.StepE.load 194 (.bool true) (by kernel_rfl) (by kernel_rfl) rfl (fun f w h => h) (fun f w p1 p2 h => n_lss (a := a) (b := j) (r := true) (decide_eq_true (show a < j from by omega)) rfl (by kernel_rfl) (by kernel_rfl)),
                  RS.StepE.pure 195 (by kernel_rfl) rfl (fun w => by kernel_rfl) (fun f w h => h),
                  RS.StepE.pure 196 (by kernel_rfl) rfl (fun w => by kernel_rfl) (fun f w h => h),
                  RS.StepE.pure 197 (by kernel_rfl) rfl (fun w => by kernel_rfl) (fun f w h => h),
                  RS.StepE.load 198 (.bool false) (by kernel_rfl) (by kernel_rfl) rfl (fun f w h => h) (fun f w p1 p2 h => n_lss (a := j) (b := mid) (r := false) (decide_eq_false (show ¬ (j < mid) from by omega)) rfl (by kernel_rfl) (by kernel_rfl)),
                  RS.StepE.pure 199 (by kernel_rfl) rfl (fun w => by kernel_rfl) (fun f w h => h), trivial⟩
              rintro f wx hf rfl
              clear hf
              (try simp only [RS.sets, List.setIfInBounds_toArray, List.set_cons_zero, List.set_cons_succ])
              obtain ⟨C1, hC1⟩ : ∃ C1, A1 ++ B1 = C1 := ⟨_, rfl⟩
              have HC1 := Aside0.mk (SS.whole (srt_left HSA.out) (srt_left HSB.out) (.inr (List.eq_nil_of_length_eq_zero (by omega))))
              have HM1 := HR
              rw [← List.append_assoc A1, hC1] at HM1
              have HC1 := Aside0.mk (show SS (A1 ++ B1) C1 by rw [← hC1]; exact HC1.out)
              clear hC1
              have lC1 : C1.length = mid - a := by rw [HC1.out.length, List.length_append, l2, l4]; omega
              have lPC : (P ++ C1).length = mid := by rw [List.length_append, lC1, HA.out]; omega
              · go_upto_region 43 with (fail)
                refine RS.wp_textE [(206, .int .i64 ((mid : Nat) : Int)), (207, .int .i64 (((mid + m) - j : Nat) : Int)), (208, .bool false), (209, .bool false), (210, undef), (211, undef), (212, undef), (213, .bool false)] (fun f w => wr = w) (by kernel_rfl) (by kernel_rfl) (fun f hf => ?_) ?_ ?_
                · rfl
                · exact ⟨RS.StepE.pure 206 (by kernel_rfl) rfl (fun w => by kernel_rfl) (fun f w h => h),
                    RS.StepE.pure 207 (by kernel_rfl) rfl (fun w => by kernel_rfl) (fun f w h => h),
                    RS.StepE.load 208 (.bool false) (by kernel_rfl) (by kernel_rfl) rfl (fun f w h => h) (fun f w p1 p2 h => n_lss (a := mid) (b := (mid + m) - j) (r := false) (decide_eq_false (show ¬ (mid < (mid + m) - j) from by omega)) rfl (by kernel_rfl) (by kernel_rfl)),
                    RS.StepE.pure 209 (by kernel_rfl) rfl (fun w => by kernel_rfl) (fun f w h => h),
                    RS.StepE.off 210 (by kernel_rfl) rfl (by kernel_rfl) (fun f w h => h),
                    RS.StepE.off 211 (by kernel_rfl) rfl (by kernel_rfl) (fun f w h => h),
                    RS.StepE.off 212 (by kernel_rfl) rfl (by kernel_rfl) (fun f w h => h),
                    RS.StepE.pure 213 (by kernel_rfl) rfl (fun w => by kernel_rfl) (fun f w h => h), trivial⟩
                rintro f wx hf rfl
                clear hf
                (try simp only [RS.sets, List.setIfInBounds_toArray, List.set_cons_zero, List.set_cons_succ])
                go_wp2_with fail
                first | go_end0 | (refine bodyPost_ret (results_none rfl _ _ _) rfl ?_)
                refine ⟨rfl, C1 ++ (A2 ++ B2), ?_, ?_⟩
                · rw [← HAT.out, ← HBT.out]
                  exact SS.turn HSA.out HSB.out HTN.out.1 HTN.out.2 HC1.out (SS.whole (srt_right HSA.out) (srt_right HSB.out) (.inl (List.eq_nil_of_length_eq_zero (by omega))))
                · rw [List.append_assoc]
                  exact (by have := HM1.out; simpa using this)
          · go_upto_region 41 with (fail)
            refine RS.wp_textE [(192, .int .i64 ((a : Nat) : Int)), (193, .int .i64 ((j : Nat) : Int)), (194, .bool false), (195, .bool false), (196, undef), (197, undef), (198, undef), (199, .bool false)] (fun f w => wr = w) (by kernel_rfl) (by kernel_rfl) (fun f hf => ?_) ?_ ?_
            · rfl
            · exact ⟨RS.StepE.pure 192 (by kernel_rfl) rfl (fun w => by kernel_rfl) (fun f w h => h),
                RS.StepE.pure 193 (by kernel_rfl) rfl (fun w => by kernel_rfl) (fun f w h => h),
                RS.StepE.load 194 (.bool false) (by kernel_rfl) (by kernel_rfl) rfl (fun f w h => h) (fun f w p1 p2 h => n_lss (a := a) (b := j) (r := false) (decide_eq_false (show ¬ (a < j) from by omega)) rfl (by kernel_rfl) (by kernel_rfl)),
                RS.StepE.pure 195 (by kernel_rfl) rfl (fun w => by kernel_rfl) (fun f w h => h),
                RS.StepE.off 196 (by kernel_rfl) rfl (by kernel_rfl) (fun f w h => h),
                RS.StepE.off 197 (by kernel_rfl) rfl (by kernel_rfl) (fun f w h => h),
                RS.StepE.off 198 (by kernel_rfl) rfl (by kernel_rfl) (fun f w h => h),
                RS.StepE.pure 199 (by kernel_rfl) rfl (fun w => by kernel_rfl) (fun f w h => h), trivial⟩
            rintro f wx hf rfl
            clear hf
            (try simp only [RS.sets, List.setIfInBounds_toArray, List.set_cons_zero, List.set_cons_succ])
            obtain ⟨C1, hC1⟩ : ∃ C1, A1 ++ B1 = C1 := ⟨_, rfl⟩
            have HC1 := Aside0.mk (SS.whole (srt_left HSA.out) (srt_left HSB.out) (.inl (List.eq_nil_of_length_eq_zero (by omega))))
            have HM1 := HR
            rw [← List.append_assoc A1, hC1] at HM1
            have HC1 := Aside0.mk (show SS (A1 ++ B1) C1 by rw [← hC1]; exact HC1.out)
            clear hC1
            have lC1 : C1.length = mid - a := by rw [HC1.out.length, List.length_append, l2, l4]; omega
            have lPC : (P ++ C1).length = mid := by rw [List.length_append, lC1, HA.out]; omega
            · go_upto_region 43 with (fail)
              refine RS.wp_textE [(206, .int .i64 ((mid : Nat) : Int)), (207, .int .i64 (((mid + m) - j : Nat) : Int)), (208, .bool false), (209, .bool false), (210, undef), (211, undef), (212, undef), (213, .bool false)] (fun f w => wr = w) (by kernel_rfl) (by kernel_rfl) (fun f hf => ?_) ?_ ?_
              · rfl
              · exact ⟨RS.StepE.pure 206 (by kernel_rfl) rfl (fun w => by kernel_rfl) (fun f w h => h),
                  RS.StepE.pure 207 (by kernel_rfl) rfl (fun w => by kernel_rfl) (fun f w h => h),
                  RS.StepE.load 208 (.bool false) (by kernel_rfl) (by kernel_rfl) rfl (fun f w h => h) (fun f w p1 p2 h => n_lss (a := mid) (b := (mid + m) - j) (r := false) (decide_eq_false (show ¬ (mid < (mid + m) - j) from by omega)) rfl (by kernel_rfl) (by kernel_rfl)),
                  RS.StepE.pure 209 (by kernel_rfl) rfl (fun w => by kernel_rfl) (fun f w h => h),
                  RS.StepE.off 210 (by kernel_rfl) rfl (by kernel_rfl) (fun f w h => h),
                  RS.StepE.off 211 (by kernel_rfl) rfl (by kernel_rfl) (fun f w h => h),
                  RS.StepE.off 212 (by kernel_rfl) rfl (by kernel_rfl) (fun f w h => h),
                  RS.StepE.pure 213 (by kernel_rfl) rfl (fun w => by kernel_rfl) (fun f w h => h), trivial⟩
              rintro f wx hf rfl
              clear hf
              (try simp only [RS.sets, List.setIfInBounds_toArray, List.set_cons_zero, List.set_cons_succ])
              go_wp2_with fail
              first | go_end0 | (refine bodyPost_ret (results_none rfl _ _ _) rfl ?_)
              refine ⟨rfl, C1 ++ (A2 ++ B2), ?_, ?_⟩
              · rw [← HAT.out, ← HBT.out]
                exact SS.turn HSA.out HSB.out HTN.out.1 HTN.out.2 HC1.out (SS.whole (srt_right HSA.out) (srt_right HSB.out) (.inl (List.eq_nil_of_length_eq_zero (by omega))))
              · rw [List.append_assoc]
                exact (by have := HM1.out; simpa using this)
  · obtain ⟨q1, q0, q2, q3⟩ := hsr
    go_upto_region 27 with (fail)
    refine RS.wp_textE [(138, .int .i64 ((m : Nat) : Int)), (139, .int .i64 ((mid : Nat) : Int)), (140, .bool false)] (fun f w => w0 = w) (by kernel_rfl) (by kernel_rfl) (fun f hf => ?_) ?_ ?_
    · rfl
    · exact ⟨RS.StepE.pure 138 (by kernel_rfl) rfl (fun w => by kernel_rfl) (fun f w h => h),
        RS.StepE.pure 139 (by kernel_rfl) rfl (fun w => by kernel_rfl) (fun f w h => h),
        RS.StepE.load 140 (.bool false) (by kernel_rfl) (by kernel_rfl) rfl (fun f w h => h) (fun f w p1 p2 h => n_gtr (a := m) (b := mid) (r := false) (decide_eq_false (show ¬ (mid < m) from by omega)) rfl (by kernel_rfl) (by kernel_rfl)), trivial⟩
    rintro f wx hf rfl
    clear hf
    (try simp only [RS.sets, List.setIfInBounds_toArray, List.set_cons_zero, List.set_cons_succ])
    go_upto_region 30 with (fail)
    refine RS.wp_textE [(145, .int .i64 ((a : Nat) : Int)), (20, .int .i64 ((a : Nat) : Int))] (fun f w => w0 = w) (by kernel_rfl) (by kernel_rfl) (fun f hf => ?_) ?_ ?_
    · rfl
    · exact ⟨RS.StepE.pure 145 (by kernel_rfl) rfl (fun w => by kernel_rfl) (fun f w h => h),
        RS.StepE.pure 20 (by kernel_rfl) rfl (fun w => by kernel_rfl) (fun f w h => h), trivial⟩
    rintro f wx hf rfl
    clear hf
    (try simp only [RS.sets, List.setIfInBounds_toArray, List.set_cons_zero, List.set_cons_succ])
    go_upto_region 31 with (fail)
    refine RS.wp_textE [(146, .int .i64 ((m : Nat) : Int)), (21, .int .i64 ((m : Nat) : Int))] (fun f w => w0 = w) (by kernel_rfl) (by kernel_rfl) (fun f hf => ?_) ?_ ?_
    · rfl
    · exact ⟨RS.StepE.pure 146 (by kernel_rfl) rfl (fun w => by kernel_rfl) (fun f w h => h),
        RS.StepE.pure 21 (by kernel_rfl) rfl (fun w => by kernel_rfl) (fun f w h => h), trivial⟩
    rintro f wx hf rfl
    clear hf
    (try simp only [RS.sets, List.setIfInBounds_toArray, List.set_cons_zero, List.set_cons_succ])
    go_upto_region 32 with (fail)
    refine RS.wp_textE [(147, .int .i64 ((mid + m : Nat) : Int)), (148, .int .i64 (((mid + m) - 1 : Nat) : Int)), (22, .int .i64 (((mid + m) - 1 : Nat) : Int))] (fun f w => w0 = w) (by kernel_rfl) (by kernel_rfl) (fun f hf => ?_) ?_ ?_
    · rfl
    · exact ⟨RS.StepE.pure 147 (by kernel_rfl) rfl (fun w => by kernel_rfl) (fun f w h => h),
        RS.StepE.load 148 (.int .i64 (((mid + m) - 1 : Nat) : Int)) (by kernel_rfl) (by kernel_rfl) rfl (fun f w h => h) (fun f w p1 p2 h => n_sub (by omega) (by omega) rfl (by kernel_rfl) (by kernel_rfl)),
        RS.StepE.pure 22 (by kernel_rfl) rfl (fun w => by kernel_rfl) (fun f w h => h), trivial⟩
    rintro f wx hf rfl
    clear hf
    (try simp only [RS.sets, List.setIfInBounds_toArray, List.set_cons_zero, List.set_cons_succ])
    go_upto_region 33 with (fail)
    go_loopw [20, 21] (fun t u wr => ∃ i j : Nat, t = .int .i64 (i : Int) ∧ u = .int .i64 (j : Int) ∧ s0 ≤ i ∧ i ≤ j ∧ j ≤ r0 ∧ (i = s0 ∨ ¬ (cur.getD (mid + m - 1 - (i - 1)) z38).f1 < (cur.getD (i - 1) z38).f1) ∧ (j = r0 ∨ (cur.getD (mid + m - 1 - j) z38).f1 < (cur.getD j z38).f1) ∧ SW w0 base g cap cur wr) (fun t u _ => (intOf u - intOf t).toNat)
    case atStart => exact ⟨s0, r0, by rw [q2], by rw [q3], Nat.le_refl _, g2, Nat.le_refl _, .inl rfl, .inl rfl, SW.start H.out⟩
    case round =>
      obtain ⟨i, j, rfl, rfl, hi, hij, hj, p1, p2, hs⟩ := hrel
      have HS := Aside0.mk hs
      have Q1 := Aside0.mk p1
      have Q2 := Aside0.mk p2
      clear hs p1 p2
      by_cases hlt : i < j
      · go_upto_region 33 with (fail)
        refine RS.wp_textE [(149, .int .i64 ((i : Nat) : Int)), (150, .int .i64 ((j : Nat) : Int)), (151, .bool true)] (fun f w => wr = w) (by kernel_rfl) (by kernel_rfl) (fun f hf => ?_) ?_ ?_
        · rfl
        · exact ⟨RS.StepE.pure 149 (by kernel_rfl) rfl (fun w => by kernel_rfl) (fun f w h => h),
            RS.StepE.pure 150 (by kernel_rfl) rfl (fun w => by kernel_rfl) (fun f w h => h),
            RS.StepE.load 151 (.bool true) (by kernel_rfl) (by kernel_rfl) rfl (fun f w h => h) (fun f w p1 p2 h => n_lss (a := i) (b := j) (r := true) (decide_eq_true (show i < j from by omega)) rfl (by kernel_rfl) (by kernel_rfl)), trivial⟩
        rintro f wx hf rfl
        clear hf
        (try simp only [RS.sets, List.setIfInBounds_toArray, List.set_cons_zero, List.set_cons_succ])
        go_upto_region 34 with (fail)
        refine RS.wp_textE [(152, .int .i64 ((i : Nat) : Int)), (153, .int .i64 ((j : Nat) : Int)), (154, .int .i64 ((i + j : Nat) : Int)), (155, .int .u64 ((i + j : Nat) : Int)), (156, .int .u64 (((i + j) / 2 : Nat) : Int)), (157, .int .i64 (((i + j) / 2 : Nat) : Int)), (23, .int .i64 (((i + j) / 2 : Nat) : Int))] (fun f w => wr = w) (by kernel_rfl) (by kernel_rfl) (fun f hf => ?_) ?_ ?_
        · rfl
        · exact ⟨RS.StepE.pure 152 (by kernel_rfl) rfl (fun w => by kernel_rfl) (fun f w h => h),
            RS.StepE.pure 153 (by kernel_rfl) rfl (fun w => by kernel_rfl) (fun f w h => h),
            RS.StepE.load 154 (.int .i64 ((i + j : Nat) : Int)) (by kernel_rfl) (by kernel_rfl) rfl (fun f w h => h) (fun f w p1 p2 h => n_add (by omega) rfl (by kernel_rfl) (by kernel_rfl)),
            RS.StepE.load 155 (.int .u64 ((i + j : Nat) : Int)) (by kernel_rfl) (by kernel_rfl) rfl (fun f w h => h) (fun f w p1 p2 h => n_conv (by omega) Try.underlying3 Try.underlying81 rfl (by kernel_rfl)),
            RS.StepE.load 156 (.int .u64 (((i + j) / 2 : Nat) : Int)) (by kernel_rfl) (by kernel_rfl) rfl (fun f w h => h) (fun f w p1 p2 h => n_shr (by omega) rfl (by kernel_rfl) (by kernel_rfl)),
            RS.StepE.load 157 (.int .i64 (((i + j) / 2 : Nat) : Int)) (by kernel_rfl) (by kernel_rfl) rfl (fun f w h => h) (fun f w p1 p2 h => n_back (by omega) Try.underlying81 Try.underlying3 rfl (by kernel_rfl)),
            RS.StepE.pure 23 (by kernel_rfl) rfl (fun w => by kernel_rfl) (fun f w h => h), trivial⟩
        rintro f wx hf rfl
        clear hf
        (try simp only [RS.sets, List.setIfInBounds_toArray, List.set_cons_zero, List.set_cons_succ])
        by_cases hc : (cur.getD (mid + m - 1 - ((i + j) / 2)) z38).f1 < (cur.getD ((i + j) / 2) z38).f1
        · have HC2 := Aside0.mk hc
          clear hc
          go_upto_region 35 with (fail)
          refine RS.wp_events (by kernel_rfl) [(158, .func (.func 30) #[] #[]), (159, .slice (some ⟨g, 0, none⟩) n cap), (160, .int .i64 (((mid + m) - 1 : Nat) : Int)), (161, .int .i64 (((i + j) / 2 : Nat) : Int)), (162, .int .i64 ((((mid + m) - 1) - ((i + j) / 2) : Nat) : Int)), (163, .pointer (some ⟨g, (((mid + m) - 1) - ((i + j) / 2)) * 4, none⟩)), (164, .agg (encS ((cur).getD (((mid + m) - 1) - ((i + j) / 2)) z38))), (165, .slice (some ⟨g, 0, none⟩) n cap), (166, .int .i64 (((i + j) / 2 : Nat) : Int)), (167, .pointer (some ⟨g, ((i + j) / 2) * 4, none⟩)), (168, .agg (encS ((cur).getD ((i + j) / 2) z38))), (169, .int .i64 (cmpI (cur.getD (mid + m - 1 - ((i + j) / 2)) z38).f1 (cur.getD ((i + j) / 2) z38).f1)), (170, .bool true), (171, .bool false)] (fun f w => SW w0 base g cap (cur) w) (by kernel_rfl) (by kernel_rfl) (fun f hf => ?_) ?_ ?_
          · exact HS.out.drew
          · exact ⟨RS.StepE.pure 158 (by kernel_rfl) rfl (fun w => by kernel_rfl) (fun f w h => h),
              RS.StepE.pure 159 (by kernel_rfl) rfl (fun w => by kernel_rfl) (fun f w h => h),
              RS.StepE.pure 160 (by kernel_rfl) rfl (fun w => by kernel_rfl) (fun f w h => h),
              RS.StepE.pure 161 (by kernel_rfl) rfl (fun w => by kernel_rfl) (fun f w h => h),
              RS.StepE.load 162 (.int .i64 ((((mid + m) - 1) - ((i + j) / 2) : Nat) : Int)) (by kernel_rfl) (by kernel_rfl) rfl (fun f w h => h) (fun f w p1 p2 h => n_sub (by omega) (by omega) rfl (by kernel_rfl) (by kernel_rfl)),
              RS.StepE.load 163 (.pointer (some ⟨g, (((mid + m) - 1) - ((i + j) / 2)) * 4, none⟩)) (by kernel_rfl) (by kernel_rfl) rfl (fun f w h => h) (fun f w p1 p2 h => SB.index (n := n) (cap := cap) (i := ((mid + m) - 1) - ((i + j) / 2)) (by omega) rfl (by kernel_rfl) (by kernel_rfl)),
              RS.StepE.load 164 (.agg (encS ((cur).getD (((mid + m) - 1) - ((i + j) / 2)) z38))) (by kernel_rfl) (by kernel_rfl) rfl (fun f w h => h) (fun f w p1 p2 h => (show SB _ g _ (cur) w from by exact h.2).load (i := ((mid + m) - 1) - ((i + j) / 2)) (by have := HL.out; omega) rfl (by kernel_rfl)),
              RS.StepE.pure 165 (by kernel_rfl) rfl (fun w => by kernel_rfl) (fun f w h => h),
              RS.StepE.pure 166 (by kernel_rfl) rfl (fun w => by kernel_rfl) (fun f w h => h),
              RS.StepE.load 167 (.pointer (some ⟨g, ((i + j) / 2) * 4, none⟩)) (by kernel_rfl) (by kernel_rfl) rfl (fun f w h => h) (fun f w p1 p2 h => SB.index (n := n) (cap := cap) (i := (i + j) / 2) (by omega) rfl (by kernel_rfl) (by kernel_rfl)),
              RS.StepE.load 168 (.agg (encS ((cur).getD ((i + j) / 2) z38))) (by kernel_rfl) (by kernel_rfl) rfl (fun f w h => h) (fun f w p1 p2 h => (show SB _ g _ (cur) w from by exact h.2).load (i := (i + j) / 2) (by have := HL.out; omega) rfl (by kernel_rfl)),
              RS.StepE.call 169 30 #[.agg (encS (cur.getD (mid + m - 1 - ((i + j) / 2)) z38)), .agg (encS (cur.getD ((i + j) / 2) z38))] (.int .i64 (cmpI (cur.getD (mid + m - 1 - ((i + j) / 2)) z38).f1 (cur.getD ((i + j) / 2) z38).f1)) (by kernel_rfl) (by kernel_rfl) rfl (fun w => by kernel_rfl) (fun f w h0 p1 p2 h => (cmp_calls (cur.getD (mid + m - 1 - ((i + j) / 2)) z38) (cur.getD ((i + j) / 2) z38) w).mono (by rintro e w' ⟨rfl, hb⟩; exact ⟨rfl, h.below hb⟩)),
              RS.StepE.load 170 (.bool true) (by kernel_rfl) (by kernel_rfl) rfl (fun f w h => h) (fun f w p1 p2 h => i_lss (a := cmpI (cur.getD (mid + m - 1 - ((i + j) / 2)) z38).f1 (cur.getD ((i + j) / 2) z38).f1) (b := 0) (cmp_yes (HC2.out)) rfl (by kernel_rfl) (by kernel_rfl)),
              RS.StepE.pure 171 (by kernel_rfl) rfl (fun w => by kernel_rfl) (fun f w h => h), trivial⟩
          rintro f w1 hf hs
          have H1 := Aside0.mk hs
          clear hf hs
          (try simp only [RS.sets, List.setIfInBounds_toArray, List.set_cons_zero, List.set_cons_succ])
          go_upto_region 37 with (fail)
          refine RS.wp_textE [(174, .int .i64 (((i + j) / 2 : Nat) : Int)), (21, .int .i64 (((i + j) / 2 : Nat) : Int))] (fun f w => w1 = w) (by kernel_rfl) (by kernel_rfl) (fun f hf => ?_) ?_ ?_
          · rfl
          · exact ⟨RS.StepE.pure 174 (by kernel_rfl) rfl (fun w => by kernel_rfl) (fun f w h => h),
              RS.StepE.pure 21 (by kernel_rfl) rfl (fun w => by kernel_rfl) (fun f w h => h), trivial⟩
          rintro f wx hf rfl
          clear hf
          (try simp only [RS.sets, List.setIfInBounds_toArray, List.set_cons_zero, List.set_cons_succ])
          go_wp2_with fail
          exact ⟨⟨i, (i + j) / 2, rfl, rfl, hi, by omega, by omega, Q1.out, .inr HC2.out, H1.out⟩, by simp [intOf]; omega⟩
        · have HC2 := Aside0.mk hc
          clear hc
          go_upto_region 35 with (fail)
          refine RS.wp_events (by kernel_rfl) [(158, .func (.func 30) #[] #[]), (159, .slice (some ⟨g, 0, none⟩) n cap), (160, .int .i64 (((mid + m) - 1 : Nat) : Int)), (161, .int .i64 (((i + j) / 2 : Nat) : Int)), (162, .int .i64 ((((mid + m) - 1) - ((i + j) / 2) : Nat) : Int)), (163, .pointer (some ⟨g, (((mid + m) - 1) - ((i + j) / 2)) * 4, none⟩)), (164, .agg (encS ((cur).getD (((mid + m) - 1) - ((i + j) / 2)) z38))), (165, .slice (some ⟨g, 0, none⟩) n cap), (166, .int .i64 (((i + j) / 2 : Nat) : Int)), (167, .pointer (some ⟨g, ((i + j) / 2) * 4, none⟩)), (168, .agg (encS ((cur).getD ((i + j) / 2) z38))), (169, .int .i64 (cmpI (cur.getD (mid + m - 1 - ((i + j) / 2)) z38).f1 (cur.getD ((i + j) / 2) z38).f1)), (170, .bool false), (171, .bool true)] (fun f w => SW w0 base g cap (cur) w) (by kernel_rfl) (by kernel_rfl) (fun f hf => ?_) ?_ ?_
          · exact HS.out.drew
          · exact ⟨RS.StepE.pure 158 (by kernel_rfl) rfl (fun w => by kernel_rfl) (fun f w h => h),
              RS.StepE.pure 159 (by kernel_rfl) rfl (fun w => by kernel_rfl) (fun f w h => h),
              RS.StepE.pure 160 (by kernel_rfl) rfl (fun w => by kernel_rfl) (fun f w h => h),
              RS.StepE.pure 161 (by kernel_rfl) rfl (fun w => by kernel_rfl) (fun f w h => h),
              RS.StepE.load 162 (.int .i64 ((((mid + m) - 1) - ((i + j) / 2) : Nat) : Int)) (by kernel_rfl) (by kernel_rfl) rfl (fun f w h => h) (fun f w p1 p2 h => n_sub (by omega) (by omega) rfl (by kernel_rfl) (by kernel_rfl)),
              RS.StepE.load 163 (.pointer (some ⟨g, (((mid + m) - 1) - ((i + j) / 2)) * 4, none⟩)) (by kernel_rfl) (by kernel_rfl) rfl (fun f w h => h) (fun f w p1 p2 h => SB.index (n := n) (cap := cap) (i := ((mid + m) - 1) - ((i + j) / 2)) (by omega) rfl (by kernel_rfl) (by kernel_rfl)),
              RS.StepE.load 164 (.agg (encS ((cur).getD (((mid + m) - 1) - ((i + j) / 2)) z38))) (by kernel_rfl) (by kernel_rfl) rfl (fun f w h => h) (fun f w p1 p2 h => (show SB _ g _ (cur) w from by exact h.2).load (i := ((mid + m) - 1) - ((i + j) / 2)) (by have := HL.out; omega) rfl (by kernel_rfl)),
              RS.StepE.pure 165 (by kernel_rfl) rfl (fun w => by kernel_rfl) (fun f w h => h),
              RS.StepE.pure 166 (by kernel_rfl) rfl (fun w => by kernel_rfl) (fun f w h => h),
              RS.StepE.load 167 (.pointer (some ⟨g, ((i + j) / 2) * 4, none⟩)) (by kernel_rfl) (by kernel_rfl) rfl (fun f w h => h) (fun f w p1 p2 h => SB.index (n := n) (cap := cap) (i := (i + j) / 2) (by omega) rfl (by kernel_rfl) (by kernel_rfl)),
              RS.StepE.load 168 (.agg (encS ((cur).getD ((i + j) / 2) z38))) (by kernel_rfl) (by kernel_rfl) rfl (fun f w h => h) (fun f w p1 p2 h => (show SB _ g _ (cur) w from by exact h.2).load (i := (i + j) / 2) (by have := HL.out; omega) rfl (by kernel_rfl)),
              RS.StepE.call 169 30 #[.agg (encS (cur.getD (mid + m - 1 - ((i + j) / 2)) z38)), .agg (encS (cur.getD ((i + j) / 2) z38))] (.int .i64 (cmpI (cur.getD (mid + m - 1 - ((i + j) / 2)) z38).f1 (cur.getD ((i + j) / 2) z38).f1)) (by kernel_rfl) (by kernel_rfl) rfl (fun w => by kernel_rfl) (fun f w h0 p1 p2 h => (cmp_calls (cur.getD (mid + m - 1 - ((i + j) / 2)) z38) (cur.getD ((i + j) / 2) z38) w).mono (by rintro e w' ⟨rfl, hb⟩; exact ⟨rfl, h.below hb⟩)),
              RS.StepE.load 170 (.bool false) (by kernel_rfl) (by kernel_rfl) rfl (fun f w h => h) (fun f w p1 p2 h => i_lss (a := cmpI (cur.getD (mid + m - 1 - ((i + j) / 2)) z38).f1 (cur.getD ((i + j) / 2) z38).f1) (b := 0) (cmp_no (HC2.out)) rfl (by kernel_rfl) (by kernel_rfl)),
              RS.StepE.pure 171 (by kernel_rfl) rfl (fun w => by kernel_rfl) (fun f w h => h), trivial⟩
          rintro f w1 hf hs
          have H1 := Aside0.mk hs
          clear hf hs
          (try simp only [RS.sets, List.setIfInBounds_toArray, List.set_cons_zero, List.set_cons_succ])
          go_upto_region 36 with (fail)
          refine RS.wp_textE [(172, .int .i64 (((i + j) / 2 : Nat) : Int)), (173, .int .i64 (((i + j) / 2 + 1 : Nat) : Int)), (20, .int .i64 (((i + j) / 2 + 1 : Nat) : Int))] (fun f w => w1 = w) (by kernel_rfl) (by kernel_rfl) (fun f hf => ?_) ?_ ?_
          · rfl
          · exact ⟨RS.StepE.pure 172 (by kernel_rfl) rfl (fun w => by kernel_rfl) (fun f w h => h),
              RS.StepE.load 173 (.int .i64 (((i + j) / 2 + 1 : Nat) : Int)) (by kernel_rfl) (by kernel_rfl) rfl (fun f w h => h) (fun f w p1 p2 h => n_add (by omega) rfl (by kernel_rfl) (by kernel_rfl)),
              RS.StepE.pure 20 (by kernel_rfl) rfl (fun w => by kernel_rfl) (fun f w h => h), trivial⟩
          rintro f wx hf rfl
          clear hf
          (try simp only [RS.sets, List.setIfInBounds_toArray, List.set_cons_zero, List.set_cons_succ])
          go_wp2_with fail
          exact ⟨⟨(i + j) / 2 + 1, j, rfl, rfl, by omega, by omega, hj, .inr HC2.out, Q2.out, H1.out⟩, by simp [intOf]; omega⟩
      · have hie : j = i := by omega
        subst hie
        go_upto_region 33 with (fail)
        refine RS.wp_textE [(149, .int .i64 ((j : Nat) : Int)), (150, .int .i64 ((j : Nat) : Int)), (151, .bool false)] (fun f w => wr = w) (by kernel_rfl) (by kernel_rfl) (fun f hf => ?_) ?_ ?_
        · rfl
        · exact ⟨RS.StepE.pure 149 (by kernel_rfl) rfl (fun w => by kernel_rfl) (fun f w h => h),
            RS.StepE.pure 150 (by kernel_rfl) rfl (fun w => by kernel_rfl) (fun f w h => h),
            RS.StepE.load 151 (.bool false) (by kernel_rfl) (by kernel_rfl) rfl (fun f w h => h) (fun f w p1 p2 h => n_lss (a := j) (b := j) (r := false) (decide_eq_false (show ¬ (j < j) from by omega)) rfl (by kernel_rfl) (by kernel_rfl)), trivial⟩
        rintro f wx hf rfl
        clear hf
        (try simp only [RS.sets, List.setIfInBounds_toArray, List.set_cons_zero, List.set_cons_succ])
        go_upto_region 38 with (fail)
        refine RS.wp_textE [(175, .int .i64 ((mid + m : Nat) : Int)), (176, .int .i64 ((j : Nat) : Int)), (177, .int .i64 (((mid + m) - j : Nat) : Int)), (24, .int .i64 (((mid + m) - j : Nat) : Int))] (fun f w => wr = w) (by kernel_rfl) (by kernel_rfl) (fun f hf => ?_) ?_ ?_
        · rfl
        · exact ⟨RS.StepE.pure 175 (by kernel_rfl) rfl (fun w => by kernel_rfl) (fun f w h => h),
            RS.StepE.pure 176 (by kernel_rfl) rfl (fun w => by kernel_rfl) (fun f w h => h),
            RS.StepE.load 177 (.int .i64 (((mid + m) - j : Nat) : Int)) (by kernel_rfl) (by kernel_rfl) rfl (fun f w h => h) (fun f w p1 p2 h => n_sub (by omega) (by omega) rfl (by kernel_rfl) (by kernel_rfl)),
            RS.StepE.pure 24 (by kernel_rfl) rfl (fun w => by kernel_rfl) (fun f w h => h), trivial⟩
        rintro f wx hf rfl
        clear hf
        (try simp only [RS.sets, List.setIfInBounds_toArray, List.set_cons_zero, List.set_cons_succ])
        have hall : a ≤ j ∧ j ≤ m ∧ j ≤ mid ∧ m ≤ mid + m - j ∧ mid + m - j ≤ b := by omega
        have HPT := Aside0.mk (mid_parts HC.out HA.out HM.out HB.out hall)
        have HTN := Aside0.mk (turn_ok (cur := cur) HC.out.symm HA.out HM.out HB.out HMID.out SA.out SBB.out hall
          (by rcases Q1.out with q | q
              · left; omega
              · by_cases e : j = a
                · left; left; exact e
                · right; rw [show mid + m - j = mid + m - 1 - (j - 1) by omega]; exact q)
          (by rcases Q2.out with q | q
              · left; omega
              · right; exact q))
        have hsa := SA.out
        have hsb := SBB.out
        rw [← List.take_append_drop (j - a) A] at hsa
        rw [← List.take_append_drop (mid + m - j - m) B] at hsb
        have HSA := Aside0.mk hsa
        have HSB := Aside0.mk hsb
        have hAT := List.take_append_drop (j - a) A
        have hBT := List.take_append_drop (mid + m - j - m) B
        generalize A.take (j - a) = A1 at *
        generalize A.drop (j - a) = A2 at *
        generalize B.take (mid + m - j - m) = B1 at *
        generalize B.drop (mid + m - j - m) = B2 at *
        have HAT := Aside0.mk hAT
        have HBT := Aside0.mk hBT
        clear hsa hsb hAT hBT
        obtain ⟨ecur, l1, l2, l3, l4, l5⟩ := HPT.out
        have EC := Aside0.mk ecur
        clear ecur HPT
        have HS1 := HS
        rw [EC.out] at HS1
        rcases (show (j < m ∧ m < mid + m - j) ∨ (j < m ∧ ¬ m < mid + m - j) ∨ ¬ j < m by omega) with hrq | hrq | hrq
        · go_upto_region 39 with (fail)
          refine RS.wp_textE [(178, .int .i64 ((j : Nat) : Int)), (179, .int .i64 ((m : Nat) : Int)), (180, .bool true), (181, .bool true), (182, .int .i64 ((m : Nat) : Int)), (183, .int .i64 (((mid + m) - j : Nat) : Int)), (184, .bool true), (185, .bool true)] (fun f w => wr = w) (by kernel_rfl) (by kernel_rfl) (fun f hf => ?_) ?_ ?_
          · rfl
          · exact ⟨RS.StepE.pure 178 (by kernel_rfl) rfl (fun w => by kernel_rfl) (fun f w h => h),
              RS.StepE.pure 179 (by kernel_rfl) rfl (fun w => by kernel_rfl) (fun f w h => h),
              RS.StepE.load 180 (.bool true) (by kernel_rfl) (by kernel_rfl) rfl (fun f w h => h) (fun f w p1 p2 h => n_lss (a := j) (b := m) (r := true) (decide_eq_true (show j < m from by omega)) rfl (by kernel_rfl) (by kernel_rfl)),
              RS.StepE.pure 181 (by kernel_rfl) rfl (fun w => by kernel_rfl) (fun f w h => h),
              RS.StepE.pure 182 (by kernel_rfl) rfl (fun w => by kernel_rfl) (fun f w h => h),
              RS.StepE.pure 183 (by kernel_rfl) rfl (fun w => by kernel_rfl) (fun f w h => h),
              RS.StepE.load 184 (.bool true) (by kernel_rfl) (by kernel_rfl) rfl (fun f w h => h) (fun f w p1 p2 h => n_lss (a := m) (b := (mid + m) - j) (r := true) (decide_eq_true (show m < (mid + m) - j from by omega)) rfl (by kernel_rfl) (by kernel_rfl)),
              RS.StepE.pure 185 (by kernel_rfl) rfl (fun w => by kernel_rfl) (fun f w h => h), trivial⟩
          rintro f wx hf rfl
          clear hf
          (try simp only [RS.sets, List.setIfInBounds_toArray, List.set_cons_zero, List.set_cons_succ])
          go_upto_region 40 with (fail)
          refine RS.wp_textE [(186, .slice (some ⟨g, 0, none⟩) n cap), (187, .int .i64 ((j : Nat) : Int)), (188, .int .i64 ((m : Nat) : Int)), (189, .int .i64 (((mid + m) - j : Nat) : Int)), (190, .func (.func 30) #[] #[]), (191, .tuple #[])] (fun f w => SW w0 base g cap (bif f 5 then P ++ A1 ++ (B1 ++ (A2 ++ (B2 ++ S))) else P ++ A1 ++ (A2 ++ (B1 ++ (B2 ++ S)))) w) (by kernel_rfl) (by kernel_rfl) (fun f hf => ?_) ?_ ?_
          · simp only [hf 5 (by decide), cond_false]
            exact HS1.out
          · exact ⟨RS.StepE.pure 186 (by kernel_rfl) rfl (fun w => by kernel_rfl) (fun f w h => h),
              RS.StepE.pure 187 (by kernel_rfl) rfl (fun w => by kernel_rfl) (fun f w h => h),
              RS.StepE.pure 188 (by kernel_rfl) rfl (fun w => by kernel_rfl) (fun f w h => h),
              RS.StepE.pure 189 (by kernel_rfl) rfl (fun w => by kernel_rfl) (fun f w h => h),
              RS.StepE.pure 190 (by kernel_rfl) rfl (fun w => by kernel_rfl) (fun f w h => h),
              RS.StepE.call 191 44 #[.slice (some ⟨g, 0, none⟩) n cap, .int .i64 ((j : Nat) : Int), .int .i64 ((m : Nat) : Int), .int .i64 ((mid + m - j : Nat) : Int), .func (.func 30) #[] #[]] (.tuple #[]) (by kernel_rfl) (by kernel_rfl) rfl (fun w => by kernel_rfl) (fun f w h0 p1 p2 h => by
              have h0 : f 5 = false := h0
              simp only [h0, cond_false] at h
              refine (rotate_calls base g cap n j m (mid + m - j) (P ++ A1) A2 B1 (B2 ++ S) w h.2 (by rw [← EC.out]; exact HL.out) l1 (by rw [l1, l3]; omega) (by rw [l1, l3, l4]; omega) (by omega) (by omega) hm).mono ?_
              rintro e w' ⟨rfl, h'⟩
              exact ⟨rfl, h.1.trans h'.1, h'.2⟩), trivial⟩
          rintro f w2 hf hs
          simp only [hf, cond_true] at hs
          have HR := Aside0.mk hs
          clear hf hs
          (try simp only [RS.sets, List.setIfInBounds_toArray, List.set_cons_zero, List.set_cons_succ])
          have hr2 : P ++ A1 ++ (B1 ++ (A2 ++ (B2 ++ S))) = P ++ (A1 ++ (B1 ++ (A2 ++ (B2 ++ S)))) := by simp
          rw [hr2] at HR
          clear hr2
          by_cases hp : a < j
          · go_upto_region 41 with (fail)
            refine RS.wp_textE [(192, .int .i64 ((a : Nat) : Int)), (193, .int .i64 ((j : Nat) : Int)), (194, .bool true), (195, .bool true), (196, .int .i64 ((j : Nat) : Int)), (197, .int .i64 ((mid : Nat) : Int)), (198, .bool true), (199, .bool true)] (fun f w => w2 = w) (by kernel_rfl) (by kernel_rfl) (fun f hf => ?_) ?_ ?_
            · rfl
            · exact ⟨RS.StepE.pure 192 (by kernel_rfl) rfl (fun w => by kernel_rfl) (fun f w h => h),
                RS.StepE.pure 193 (by kernel_rfl) rfl (fun w => by kernel_rfl) (fun f w h => h),
                RS.StepE.load 194 (.bool true) (by kernel_rfl) (by kernel_rfl) rfl (fun f w h => h) (fun f w p1 p2 h => n_lss (a := a) (b := j) (r := true) (decide_eq_true (show a < j from by omega)) rfl (by kernel_rfl) (by kernel_rfl)),
                RS.StepE.pure 195 (by kernel_rfl) rfl (fun w => by kernel_rfl) (fun f w h => h),
                RS.StepE.pure 196 (by kernel_rfl) rfl (fun w => by kernel_rfl) (fun f w h => h),
                RS.StepE.pure 197 (by kernel_rfl) rfl (fun w => by kernel_rfl) (fun f w h => h),
                RS.StepE.load 198 (.bool true) (by kernel_rfl) (by kernel_rfl) rfl (fun f w h => h) (fun f w p1 p2 h => n_lss (a := j) (b := mid) (r := true) (decide_eq_true (show j < mid from by omega)) rfl (by kernel_rfl) (by kernel_rfl)),
                RS.StepE.pure 199 (by kernel_rfl) rfl (fun w => by kernel_rfl) (fun f w h => h), trivial⟩
            rintro f wx hf rfl
            clear hf
            (try simp only [RS.sets, List.setIfInBounds_toArray, List.set_cons_zero, List.set_cons_succ])
            go_upto_region 42 with (fail)
            refine RS.wp_textE [(200, .slice (some ⟨g, 0, none⟩) n cap), (201, .int .i64 ((a : Nat) : Int)), (202, .int .i64 ((j : Nat) : Int)), (203, .int .i64 ((mid : Nat) : Int)), (204, .func (.func 30) #[] #[]), (205, .tuple #[])] (fun f w => (f 5 = false → SW w0 base g cap (P ++ (A1 ++ (B1 ++ (A2 ++ (B2 ++ S))))) w) ∧ (f 5 = true → ∃ C, SS (A1 ++ B1) C ∧ SW w0 base g cap (P ++ (C ++ (A2 ++ (B2 ++ S)))) w)) (by kernel_rfl) (by kernel_rfl) (fun f hf => ?_) ?_ ?_
            · exact ⟨fun _ => HR.out, fun e => by rw [hf 5 (by decide)] at e; cases e⟩
            · exact ⟨RS.StepE.pure 200 (by kernel_rfl) rfl (fun w => by kernel_rfl) (fun f w h => h),
                RS.StepE.pure 201 (by kernel_rfl) rfl (fun w => by kernel_rfl) (fun f w h => h),
                RS.StepE.pure 202 (by kernel_rfl) rfl (fun w => by kernel_rfl) (fun f w h => h),
                RS.StepE.pure 203 (by kernel_rfl) rfl (fun w => by kernel_rfl) (fun f w h => h),
                RS.StepE.pure 204 (by kernel_rfl) rfl (fun w => by kernel_rfl) (fun f w h => h),
                RS.StepE.call 205 43 #[.slice (some ⟨g, 0, none⟩) n cap, .int .i64 ((a : Nat) : Int), .int .i64 ((j : Nat) : Int), .int .i64 ((mid : Nat) : Int), .func (.func 30) #[] #[]] (.tuple #[]) (by kernel_rfl) (by kernel_rfl) rfl (fun w => by kernel_rfl) (fun f w h0 p1 p2 h => by
                have h := h.1 h0
                refine (IH.out a j mid P A1 B1 (A2 ++ (B2 ++ S)) w (by omega) h.2 (by have := HL.out; rw [EC.out] at this; simp only [List.length_append] at this ⊢; omega) HA.out (by rw [HA.out, l2]; omega) (by rw [HA.out, l2, l4]; omega) (by omega) (by omega) (srt_left HSA.out) (srt_left HSB.out)).mono ?_
                rintro e w' ⟨rfl, C, hC, h'⟩
                exact ⟨rfl, fun e => by simp [RS.upd] at e, fun _ => ⟨C, hC, h.1.trans h'.1, h'.2⟩⟩), trivial⟩
            rintro f w3 hf hs
            obtain ⟨C1, hC1, hs⟩ := hs.2 (hf 5)
            have HC1 := Aside0.mk hC1
            have HM1 := Aside0.mk hs
            clear hf hs hC1
            (try simp only [RS.sets, List.setIfInBounds_toArray, List.set_cons_zero, List.set_cons_succ])
            have lC1 : C1.length = mid - a := by rw [HC1.out.length, List.length_append, l2, l4]; omega
            have lPC : (P ++ C1).length = mid := by rw [List.length_append, lC1, HA.out]; omega
            by_cases hsb : mid + m - j < b
            · go_upto_region 43 with (fail)
              refine RS.wp_textE [(206, .int .i64 ((mid : Nat) : Int)), (207, .int .i64 (((mid + m) - j : Nat) : Int)), (208, .bool true), (209, .bool true), (210, .int .i64 (((mid + m) - j : Nat) : Int)), (211, .int .i64 ((b : Nat) : Int)), (212, .bool true), (213, .bool true)] (fun f w => w3 = w) (by kernel_rfl) (by kernel_rfl) (fun f hf => ?_) ?_ ?_
              · rfl
              · exact ⟨RS.StepE.pure 206 (by kernel_rfl) rfl (fun w => by kernel_rfl) (fun f w h => h),
                  RS.StepE.pure 207 (by kernel_rfl) rfl (fun w => by kernel_rfl) (fun f w h => h),
                  RS.StepE.load 208 (.bool true) (by kernel_rfl) (by kernel_rfl) rfl (fun f w h => h) (fun f w p1 p2 h => n_lss (a := mid) (b := (mid + m) - j) (r := true) (decide_eq_true (show mid < (mid + m) - j from by omega)) rfl (by kernel_rfl) (by kernel_rfl)),
                  RS.StepE.pure 209 (by kernel_rfl) rfl (fun w => by kernel_rfl) (fun f w h => h),
                  RS.StepE.pure 210 (by kernel_rfl) rfl (fun w => by kernel_rfl) (fun f w h => h),
                  RS.StepE.pure 211 (by kernel_rfl) rfl (fun w => by kernel_rfl) (fun f w h => h),
                  RS.StepE.load 212 (.bool true) (by kernel_rfl) (by kernel_rfl) rfl (fun f w h => h) (fun f w p1 p2 h => n_lss (a := (mid + m) - j) (b := b) (r := true) (decide_eq_true (show (mid + m) - j < b from by omega)) rfl (by kernel_rfl) (by kernel_rfl)),
                  RS.StepE.pure 213 (by kernel_rfl) rfl (fun w => by kernel_rfl) (fun f w h => h), trivial⟩
              rintro f wx hf rfl
              clear hf
              (try simp only [RS.sets, List.setIfInBounds_toArray, List.set_cons_zero, List.set_cons_succ])
              go_upto_region 44 with (fail)
              refine RS.wp_textE [(214, .slice (some ⟨g, 0, none⟩) n cap), (215, .int .i64 ((mid : Nat) : Int)), (216, .int .i64 (((mid + m) - j : Nat) : Int)), (217, .int .i64 ((b : Nat) : Int)), (218, .func (.func 30) #[] #[]), (219, .tuple #[])] (fun f w => (f 5 = false → SW w0 base g cap (P ++ (C1 ++ (A2 ++ (B2 ++ S)))) w) ∧ (f 5 = true → ∃ C, SS (A2 ++ B2) C ∧ SW w0 base g cap (P ++ (C1 ++ (C ++ S))) w)) (by kernel_rfl) (by kernel_rfl) (fun f hf => ?_) ?_ ?_
              · exact ⟨fun _ => HM1.out, fun e => by rw [hf 5 (by decide)] at e; cases e⟩
              · exact ⟨RS.StepE.pure 214 (by kernel_rfl) rfl (fun w => by kernel_rfl) (fun f w h => h),
                  RS.StepE.pure 215 (by kernel_rfl) rfl (fun w => by kernel_rfl) (fun f w h => h),
                  RS.StepE.pure 216 (by kernel_rfl) rfl (fun w => by kernel_rfl) (fun f w h => h),
                  RS.StepE.pure 217 (by kernel_rfl) rfl (fun w => by kernel_rfl) (fun f w h => h),
                  RS.StepE.pure 218 (by kernel_rfl) rfl (fun w => by kernel_rfl) (fun f w h => h),
                  RS.StepE.call 219 43 #[.slice (some ⟨g, 0, none⟩) n cap, .int .i64 ((mid : Nat) : Int), .int .i64 ((mid + m - j : Nat) : Int), .int .i64 ((b : Nat) : Int), .func (.func 30) #[] #[]] (.tuple #[]) (by kernel_rfl) (by kernel_rfl) rfl (fun w => by kernel_rfl) (fun f w h0 p1 p2 h => by
                  have h := h.1 h0
                  have h2 := h.2
                  rw [← List.append_assoc P] at h2
                  refine (IH.out mid (mid + m - j) b (P ++ C1) A2 B2 S w (by omega) h2 (by have := HL.out; rw [EC.out] at this; simp only [List.length_append] at this ⊢; omega) lPC (by rw [lPC, l3]; omega) (by rw [lPC, l3, l5]; omega) (by omega) (by omega) (srt_right HSA.out) (srt_right HSB.out)).mono ?_
                  rintro e w' ⟨rfl, C, hC, h'⟩
                  rw [List.append_assoc] at h'
                  exact ⟨rfl, fun e => by simp [RS.upd] at e, fun _ => ⟨C, hC, h.1.trans h'.1, h'.2⟩⟩), trivial⟩
              rintro f w4 hf hs
              obtain ⟨C2, hC2, hs⟩ := hs.2 (hf 5)
              have HC2' := Aside0.mk hC2
              have HM2 := Aside0.mk hs
              clear hf hs hC2
              (try simp only [RS.sets, List.setIfInBounds_toArray, List.set_cons_zero, List.set_cons_succ])
              go_wp2_with fail
              first | go_end0 | (refine bodyPost_ret (results_none rfl _ _ _) rfl ?_)
              refine ⟨rfl, C1 ++ C2, ?_, ?_⟩
              · rw [← HAT.out, ← HBT.out]
                exact SS.turn HSA.out HSB.out HTN.out.1 HTN.out.2 HC1.out HC2'.out
              · rw [List.append_assoc]
                exact HM2.out
            · go_upto_region 43 with (fail)
              refine RS.wp_textE [(206, .int .i64 ((mid : Nat) : Int)), (207, .int .i64 (((mid + m) - j : Nat) : Int)), (208, .bool true), (209, .bool true), (210, .int .i64 (((mid + m) - j : Nat) : Int)), (211, .int .i64 ((b : Nat) : Int)), (212, .bool false), (213, .bool false)] (fun f w => w3 = w) (by kernel_rfl) (by kernel_rfl) (fun f hf => ?_) ?_ ?_
              · rfl
              · exact ⟨RS.StepE.pure 206 (by kernel_rfl) rfl (fun w => by kernel_rfl) (fun f w h => h),
                  RS.StepE.pure 207 (by kernel_rfl) rfl (fun w => by kernel_rfl) (fun f w h => h),
                  RS.StepE.load 208 (.bool true) (by kernel_rfl) (by kernel_rfl) rfl (fun f w h => h) (fun f w p1 p2 h => n_lss (a := mid) (b := (mid + m) - j) (r := true) (decide_eq_true (show mid < (mid + m) - j from by omega)) rfl (by kernel_rfl) (by kernel_rfl)),
                  RS.StepE.pure 209 (by kernel_rfl) rfl (fun w => by kernel_rfl) (fun f w h => h),
                  RS.StepE.pure 210 (by kernel_rfl) rfl (fun w => by kernel_rfl) (fun f w h => h),
                  RS.StepE.pure 211 (by kernel_rfl) rfl (fun w => by kernel_rfl) (fun f w h => h),
                  RS.StepE.load 212 (.bool false) (by kernel_rfl) (by kernel_rfl) rfl (fun f w h => h) (fun f w p1 p2 h => n_lss (a := (mid + m) - j) (b := b) (r := false) (decide_eq_false (show ¬ ((mid + m) - j < b) from by omega)) rfl (by kernel_rfl) (by kernel_rfl)),
                  RS.StepE.pure 213 (by kernel_rfl) rfl (fun w => by kernel_rfl) (fun f w h => h), trivial⟩
              rintro f wx hf rfl
              clear hf
              (try simp only [RS.sets, List.setIfInBounds_toArray, List.set_cons_zero, List.set_cons_succ])
              go_wp2_with fail
              first | go_end0 | (refine bodyPost_ret (results_none rfl _ _ _) rfl ?_)
              refine ⟨rfl, C1 ++ (A2 ++ B2), ?_, ?_⟩
              · rw [← HAT.out, ← HBT.out]
                exact SS.turn HSA.out HSB.out HTN.out.1 HTN.out.2 HC1.out (SS.whole (srt_right HSA.out) (srt_right HSB.out) (.inr (List.eq_nil_of_length_eq_zero (by omega))))
              · rw [List.append_assoc]
                exact (by have := HM1.out; simpa using this)
          · go_upto_region 41 with (fail)
            refine RS.wp_textE [(192, .int .i64 ((a : Nat) : Int)), (193, .int .i64 ((j : Nat) : Int)), (194, .bool false), (195, .bool false), (196, undef), (197, undef), (198, undef), (199, .bool false)] (fun f w => w2 = w) (by kernel_rfl) (by kernel_rfl) (fun f hf => ?_) ?_ ?_
            · rfl
            · exact ⟨RS.StepE.pure 192 (by kernel_rfl) rfl (fun w => by kernel_rfl) (fun f w h => h),
                RS.StepE.pure 193 (by kernel_rfl) rfl (fun w => by kernel_rfl) (fun f w h => h),
                RS.StepE.load 194 (.bool false) (by kernel_rfl) (by kernel_rfl) rfl (fun f w h => h) (fun f w p1 p2 h => n_lss (a := a) (b := j) (r := false) (decide_eq_false (show ¬ (a < j) from by omega)) rfl (by kernel_rfl) (by kernel_rfl)),
                RS.StepE.pure 195 (by kernel_rfl) rfl (fun w => by kernel_rfl) (fun f w h => h),
                RS.StepE.off 196 (by kernel_rfl) rfl (by kernel_rfl) (fun f w h => h),
                RS.StepE.off 197 (by kernel_rfl) rfl (by kernel_rfl) (fun f w h => h),
                RS.StepE.off 198 (by kernel_rfl) rfl (by kernel_rfl) (fun f w h => h),
                RS.StepE.pure 199 (by kernel_rfl) rfl (fun w => by kernel_rfl) (fun f w h => h), trivial⟩
            rintro f wx hf rfl
            clear hf
            (try simp only [RS.sets, List.setIfInBounds_toArray, List.set_cons_zero, List.set_cons_succ])
            obtain ⟨C1, hC1⟩ : ∃ C1, A1 ++ B1 = C1 := ⟨_, rfl⟩
            have HC1 := Aside0.mk (SS.whole (srt_left HSA.out) (srt_left HSB.out) (.inl (List.eq_nil_of_length_eq_zero (by omega))))
            have HM1 := HR
            rw [← List.append_assoc A1, hC1] at HM1
            have HC1 := Aside0.mk (show SS (A1 ++ B1) C1 by rw [← hC1]; exact HC1.out)
            clear hC1
            have lC1 : C1.length = mid - a := by rw [HC1.out.length, List.length_append, l2, l4]; omega
            have lPC : (P ++ C1).length = mid := by rw [List.length_append, lC1, HA.out]; omega
            by_cases hsb : mid + m - j < b
            · go_upto_region 43 with (fail)
              refine RS.wp_textE [(206, .int .i64 ((mid : Nat) : Int)), (207, .int .i64 (((mid + m) - j : Nat) : Int)), (208, .bool true), (209, .bool true), (210, .int .i64 (((mid + m) - j : Nat) : Int)), (211, .int .i64 ((b : Nat) : Int)), (212, .bool true), (213, .bool true)] (fun f w => w2 = w) (by kernel_rfl) (by kernel_rfl) (fun f hf => ?_) ?_ ?_
              · rfl
              · exact ⟨RS.StepE.pure 206 (by kernel_rfl) rfl (fun w => by kernel_rfl) (fun f w h => h),
                  RS.StepE.pure 207 (by kernel_rfl) rfl (fun w => by kernel_rfl) (fun f w h => h),
                  RS.StepE.load 208 (.bool true) (by kernel_rfl) (by kernel_rfl) rfl (fun f w h => h) (fun f w p1 p2 h => n_lss (a := mid) (b := (mid + m) - j) (r := true) (decide_eq_true (show mid < (mid + m) - j from by omega)) rfl (by kernel_rfl) (by kernel_rfl)),
                  RS.StepE.pure 209 (by kernel_rfl) rfl (fun w => by kernel_rfl) (fun f w h => h),
                  RS.StepE.pure 210 (by kernel_rfl) rfl (fun w => by kernel_rfl) (fun f w h => h),
                  RS.StepE.pure 211 (by kernel_rfl) rfl (fun w => by kernel_rfl) (fun f w h => h),
                  RS.StepE.load 212 (.bool true) (by kernel_rfl) (by kernel_rfl) rfl (fun f w h => h) (fun f w p1 p2 h => n_lss (a := (mid + m) - j) (b := b) (r := true) (decide_eq_true (show (mid + m) - j < b from by omega)) rfl (by kernel_rfl) (by kernel_rfl)),
                  RS.StepE.pure 213 (by kernel_rfl) rfl (fun w => by kernel_rfl) (fun f w h => h), trivial⟩
              rintro f wx hf rfl
              clear hf
              (try simp only [RS.sets, List.setIfInBounds_toArray, List.set_cons_zero, List.set_cons_succ])
              go_upto_region 44 with (fail)
              refine RS.wp_textE [(214, .slice (some ⟨g, 0, none⟩) n cap), (215, .int .i64 ((mid : Nat) : Int)), (216, .int .i64 (((mid + m) - j : Nat) : Int)), (217, .int .i64 ((b : Nat) : Int)), (218, .func (.func 30) #[] #[]), (219, .tuple #[])] (fun f w => (f 5 = false → SW w0 base g cap (P ++ (C1 ++ (A2 ++ (B2 ++ S)))) w) ∧ (f 5 = true → ∃ C, SS (A2 ++ B2) C ∧ SW w0 base g cap (P ++ (C1 ++ (C ++ S))) w)) (by kernel_rfl) (by kernel_rfl) (fun f hf => ?_) ?_ ?_
              · exact ⟨fun _ => HM1.out, fun e => by rw [hf 5 (by decide)] at e; cases e⟩
              · exact ⟨RS.StepE.pure 214 (by kernel_rfl) rfl (fun w => by kernel_rfl) (fun f w h => h),
                  RS.StepE.pure 215 (by kernel_rfl) rfl (fun w => by kernel_rfl) (fun f w h => h),
                  RS.StepE.pure 216 (by kernel_rfl) rfl (fun w => by kernel_rfl) (fun f w h => h),
                  RS.StepE.pure 217 (by kernel_rfl) rfl (fun w => by kernel_rfl) (fun f w h => h),
                  RS.StepE.pure 218 (by kernel_rfl) rfl (fun w => by kernel_rfl) (fun f w h => h),
                  RS.StepE.call 219 43 #[.slice (some ⟨g, 0, none⟩) n cap, .int .i64 ((mid : Nat) : Int), .int .i64 ((mid + m - j : Nat) : Int), .int .i64 ((b : Nat) : Int), .func (.func 30) #[] #[]] (.tuple #[]) (by kernel_rfl) (by kernel_rfl) rfl (fun w => by kernel_rfl) (fun f w h0 p1 p2 h => by
                  have h := h.1 h0
                  have h2 := h.2
                  rw [← List.append_assoc P] at h2
                  refine (IH.out mid (mid + m - j) b (P ++ C1) A2 B2 S w (by omega) h2 (by have := HL.out; rw [EC.out] at this; simp only [List.length_append] at this ⊢; omega) lPC (by rw [lPC, l3]; omega) (by rw [lPC, l3, l5]; omega) (by omega) (by omega) (srt_right HSA.out) (srt_right HSB.out)).mono ?_
                  rintro e w' ⟨rfl, C, hC, h'⟩
                  rw [List.append_assoc] at h'
                  exact ⟨rfl, fun e => by simp [RS.upd] at e, fun _ => ⟨C, hC, h.1.trans h'.1, h'.2⟩⟩), trivial⟩
              rintro f w4 hf hs
              obtain ⟨C2, hC2, hs⟩ := hs.2 (hf 5)
              have HC2' := Aside0.mk hC2
              have HM2 := Aside0.mk hs
              clear hf hs hC2
              (try simp only [RS.sets, List.setIfInBounds_toArray, List.set_cons_zero, List.set_cons_succ])
              go_wp2_with fail
              first | go_end0 | (refine bodyPost_ret (results_none rfl _ _ _) rfl ?_)
              refine ⟨rfl, C1 ++ C2, ?_, ?_⟩
              · rw [← HAT.out, ← HBT.out]
                exact SS.turn HSA.out HSB.out HTN.out.1 HTN.out.2 HC1.out HC2'.out
              · rw [List.append_assoc]
                exact HM2.out
            · go_upto_region 43 with (fail)
              refine RS.wp_textE [(206, .int .i64 ((mid : Nat) : Int)), (207, .int .i64 (((mid + m) - j : Nat) : Int)), (208, .bool true), (209, .bool true), (210, .int .i64 (((mid + m) - j : Nat) : Int)), (211, .int .i64 ((b : Nat) : Int)), (212, .bool false), (213, .bool false)] (fun f w => w2 = w) (by kernel_rfl) (by kernel_rfl) (fun f hf => ?_) ?_ ?_
              · rfl
              · exact ⟨RS.StepE.pure 206 (by kernel_rfl) rfl (fun w => by kernel_rfl) (fun f w h => h),
                  RS.StepE.pure 207 (by kernel_rfl) rfl (fun w => by kernel_rfl) (fun f w h => h),
                  RS.StepE.load 208 (.bool true) (by kernel_rfl) (by kernel_rfl) rfl (fun f w h => h) (fun f w p1 p2 h => n_lss (a := mid) (b := (mid + m) - j) (r := true) (decide_eq_true (show mid < (mid + m) - j from by omega)) rfl (by kernel_rfl) (by kernel_rfl)),
                  RS.StepE.pure 209 (by kernel_rfl) rfl (fun w => by kernel_rfl) (fun f w h => h),
                  RS.StepE.pure 210 (by kernel_rfl) rfl (fun w => by kernel_rfl) (fun f w h => h),
                  RS.StepE.pure 211 (by kernel_rfl) rfl (fun w => by kernel_rfl) (fun f w h => h),
                  RS.StepE.load 212 (.bool false) (by kernel_rfl) (by kernel_rfl) rfl (fun f w h => h) (fun f w p1 p2 h => n_lss (a := (mid + m) - j) (b := b) (r := false) (decide_eq_false (show ¬ ((mid + m) - j < b) from by omega)) rfl (by kernel_rfl) (by kernel_rfl)),
                  RS.StepE.pure 213 (by kernel_rfl) rfl (fun w => by kernel_rfl) (fun f w h => h), trivial⟩
              rintro f wx hf rfl
              clear hf
              (try simp only [RS.sets, List.setIfInBounds_toArray, List.set_cons_zero, List.set_cons_succ])
              go_wp2_with fail
              first | go_end0 | (refine bodyPost_ret (results_none rfl _ _ _) rfl ?_)
              refine ⟨rfl, C1 ++ (A2 ++ B2), ?_, ?_⟩
              · rw [← HAT.out, ← HBT.out]
                exact SS.turn HSA.out HSB.out HTN.out.1 HTN.out.2 HC1.out (SS.whole (srt_right HSA.out) (srt_right HSB.out) (.inr (List.eq_nil_of_length_eq_zero (by omega))))
              · rw [List.append_assoc]
                exact (by have := HM1.out; simpa using this)
        · go_upto_region 39 with (fail)
          refine RS.wp_textE [(178, .int .i64 ((j : Nat) : Int)), (179, .int .i64 ((m : Nat) : Int)), (180, .bool true), (181, .bool true), (182, .int .i64 ((m : Nat) : Int)), (183, .int .i64 (((mid + m) - j : Nat) : Int)), (184, .bool false), (185, .bool false)] (fun f w => wr = w) (by kernel_rfl) (by kernel_rfl) (fun f hf => ?_) ?_ ?_
          · rfl
          · exact ⟨RS.StepE.pure 178 (by kernel_rfl) rfl (fun w => by kernel_rfl) (fun f w h => h),
              RS.StepE.pure 179 (by kernel_rfl) rfl (fun w => by kernel_rfl) (fun f w h => h),
              RS.StepE.load 180 (.bool true) (by kernel_rfl) (by kernel_rfl) rfl (fun f w h => h) (fun f w p1 p2 h => n_lss (a := j) (b := m) (r := true) (decide_eq_true (show j < m from by omega)) rfl (by kernel_rfl) (by kernel_rfl)),
              RS.StepE.pure 181 (by kernel_rfl) rfl (fun w => by kernel_rfl) (fun f w h => h),
              RS.StepE.pure 182 (by kernel_rfl) rfl (fun w => by kernel_rfl) (fun f w h => h),
              RS.StepE.pure 183 (by kernel_rfl) rfl (fun w => by kernel_rfl) (fun f w h => h),
              RS.StepE.load 184 (.bool false) (by kernel_rfl) (by kernel_rfl) rfl (fun f w h => h) (fun f w p1 p2 h => n_lss (a := m) (b := (mid + m) - j) (r := false) (decide_eq_false (show ¬ (m < (mid + m) - j) from by omega)) rfl (by kernel_rfl) (by kernel_rfl)),
              RS.StepE.pure 185 (by kernel_rfl) rfl (fun w => by kernel_rfl) (fun f w h => h), trivial⟩
          rintro f wx hf rfl
          clear hf
          (try simp only [RS.sets, List.setIfInBounds_toArray, List.set_cons_zero, List.set_cons_succ])
          have HR := HS1
          rw [turn_none (.inr (List.eq_nil_of_length_eq_zero (by omega)))] at HR
          have hr2 : P ++ A1 ++ (B1 ++ (A2 ++ (B2 ++ S))) = P ++ (A1 ++ (B1 ++ (A2 ++ (B2 ++ S)))) := by simp
          rw [hr2] at HR
          clear hr2
          by_cases hp : a < j
          · go_upto_region 41 with (fail)
            refine RS.wp_textE [(192, .int .i64 ((a : Nat) : Int)), (193, .int .i64 ((j : Nat) : Int)), (194, .bool true), (195, .bool true), (196, .int .i64 ((j : Nat) : Int)), (197, .int .i64 ((mid : Nat) : Int)), (198, .bool false), (199, .bool false)] (fun f w => wr = w) (by kernel_rfl) (by kernel_rfl) (fun f hf => ?_) ?_ ?_
            · rfl
            · exact ⟨RS.StepE.pure 192 (by kernel_rfl) rfl (fun w => by kernel_rfl) (fun f w h => h),
                RS.StepE.pure 193 (by kernel_rfl) rfl (fun w => by kernel_rfl) (fun f w h => h),
                RS.StepE.load 194 (.bool true) (by kernel_rfl) (by kernel_rfl) rfl (fun f w h => h) (fun f w p1 p2 h => n_lss (a := a) (b := j) (r := true) (decide_eq_true (show a < j from by omega)) rfl (by kernel_rfl) (by kernel_rfl)),
                RS.StepE.pure 195 (by kernel_rfl) rfl (fun w => by kernel_rfl) (fun f w h => h),
                RS.StepE.pure 196 (by kernel_rfl) rfl (fun w => by kernel_rfl) (fun f w h => h),
                RS.StepE.pure 197 (by kernel_rfl) rfl (fun w => by kernel_rfl) (fun f w h => h),
                RS.StepE.load 198 (.bool false) (by kernel_rfl) (by kernel_rfl) rfl (fun f w h => h) (fun f w p1 p2 h => n_lss (a := j) (b := mid) (r := false) (decide_eq_false (show ¬ (j < mid) from by omega)) rfl (by kernel_rfl) (by kernel_rfl)),
                RS.StepE.pure 199 (by kernel_rfl) rfl (fun w => by kernel_rfl) (fun f w h => h), trivial⟩
            rintro f wx hf rfl
            clear hf
            (try simp only [RS.sets, List.setIfInBounds_toArray, List.set_cons_zero, List.set_cons_succ])
            obtain ⟨C1, hC1⟩ : ∃ C1, A1 ++ B1 = C1 := ⟨_, rfl⟩
            have HC1 := Aside0.mk (SS.whole (srt_left HSA.out) (srt_left HSB.out) (.inr (List.eq_nil_of_length_eq_zero (by omega))))
            have HM1 := HR
            rw [← List.append_assoc A1, hC1] at HM1
            have HC1 := Aside0.mk (show SS (A1 ++ B1) C1 by rw [← hC1]; exact HC1.out)
            clear hC1
            have lC1 : C1.length = mid - a := by rw [HC1.out.length, List.length_append, l2, l4]; omega
            have lPC : (P ++ C1).length = mid := by rw [List.length_append, lC1, HA.out]; omega
            by_cases hsb : mid + m - j < b
            · go_upto_region 43 with (fail)
              refine RS.wp_textE [(206, .int .i64 ((mid : Nat) : Int)), (207, .int .i64 (((mid + m) - j : Nat) : Int)), (208, .bool true), (209, .bool true), (210, .int .i64 (((mid + m) - j : Nat) : Int)), (211, .int .i64 ((b : Nat) : Int)), (212, .bool true), (213, .bool true)] (fun f w => wr = w) (by kernel_rfl) (by kernel_rfl) (fun f hf => ?_) ?_ ?_
              · rfl
              · exact ⟨RS.StepE.pure 206 (by kernel_rfl) rfl (fun w => by kernel_rfl) (fun f w h => h),
                  RS.StepE.pure 207 (by kernel_rfl) rfl (fun w => by kernel_rfl) (fun f w h => h),
                  RS.StepE.load 208 (.bool true) (by kernel_rfl) (by kernel_rfl) rfl (fun f w h => h) (fun f w p1 p2 h => n_lss (a := mid) (b := (mid + m) - j) (r := true) (decide_eq_true (show mid < (mid + m) - j from by omega)) rfl (by kernel_rfl) (by kernel_rfl)),
                  RS.StepE.pure 209 (by kernel_rfl) rfl (fun w => by kernel_rfl) (fun f w h => h),
                  RS.StepE.pure 210 (by kernel_rfl) rfl (fun w => by kernel_rfl) (fun f w h => h),
                  RS.StepE.pure 211 (by kernel_rfl) rfl (fun w => by kernel_rfl) (fun f w h => h),
                  RS.StepE.load 212 (.bool true) (by kernel_rfl) (by kernel_rfl) rfl (fun f w h => h) (fun f w p1 p2 h => n_lss (a := (mid + m) - j) (b := b) (r := true) (decide_eq_true (show (mid + m) - j < b from by omega)) rfl (by kernel_rfl) (by kernel_rfl)),
                  RS.StepE.pure 213 (by kernel_rfl) rfl (fun w => by kernel_rfl) (fun f w h => h), trivial⟩
              rintro f wx hf rfl
              clear hf
              (try simp only [RS.sets, List.setIfInBounds_toArray, List.set_cons_zero, List.set_cons_succ])
              go_upto_region 44 with (fail)
              refine RS.wp_textE [(214, .slice (some ⟨g, 0, none⟩) n cap), (215, .int .i64 ((mid : Nat) : Int)), (216, .int .i64 (((mid + m) - j : Nat) : Int)), (217, .int .i64 ((b : Nat) : Int)), (218, .func (.func 30) #[] #[]), (219, .tuple #[])] (fun f w => (f 5 = false → SW w0 base g cap (P ++ (C1 ++ (A2 ++ (B2 ++ S)))) w) ∧ (f 5 = true → ∃ C, SS (A2 ++ B2) C ∧ SW w0 base g cap (P ++ (C1 ++ (C ++ S))) w)) (by kernel_rfl) (by kernel_rfl) (fun f hf => ?_) ?_ ?_
              · exact ⟨fun _ => HM1.out, fun e => by rw [hf 5 (by decide)] at e; cases e⟩
              · exact ⟨RS.StepE.pure 214 (by kernel_rfl) rfl (fun w => by kernel_rfl) (fun f w h => h),
                  RS.StepE.pure 215 (by kernel_rfl) rfl (fun w => by kernel_rfl) (fun f w h => h),
                  RS.StepE.pure 216 (by kernel_rfl) rfl (fun w => by kernel_rfl) (fun f w h => h),
                  RS.StepE.pure 217 (by kernel_rfl) rfl (fun w => by kernel_rfl) (fun f w h => h),
                  RS.StepE.pure 218 (by kernel_rfl) rfl (fun w => by kernel_rfl) (fun f w h => h),
                  RS.StepE.call 219 43 #[.slice (some ⟨g, 0, none⟩) n cap, .int .i64 ((mid : Nat) : Int), .int .i64 ((mid + m - j : Nat) : Int), .int .i64 ((b : Nat) : Int), .func (.func 30) #[] #[]] (.tuple #[]) (by kernel_rfl) (by kernel_rfl) rfl (fun w => by kernel_rfl) (fun f w h0 p1 p2 h => by
                  have h := h.1 h0
                  have h2 := h.2
                  rw [← List.append_assoc P] at h2
                  refine (IH.out mid (mid + m - j) b (P ++ C1) A2 B2 S w (by omega) h2 (by have := HL.out; rw [EC.out] at this; simp only [List.length_append] at this ⊢; omega) lPC (by rw [lPC, l3]; omega) (by rw [lPC, l3, l5]; omega) (by omega) (by omega) (srt_right HSA.out) (srt_right HSB.out)).mono ?_
                  rintro e w' ⟨rfl, C, hC, h'⟩
                  rw [List.append_assoc] at h'
                  exact ⟨rfl, fun e => by simp [RS.upd] at e, fun _ => ⟨C, hC, h.1.trans h'.1, h'.2⟩⟩), trivial⟩
              rintro f w4 hf hs
              obtain ⟨C2, hC2, hs⟩ := hs.2 (hf 5)
              have HC2' := Aside0.mk hC2
              have HM2 := Aside0.mk hs
              clear hf hs hC2
              (try simp only [RS.sets, List.setIfInBounds_toArray, List.set_cons_zero, List.set_cons_succ])
              go_wp2_with fail
              first | go_end0 | (refine bodyPost_ret (results_none rfl _ _ _) rfl ?_)
              refine ⟨rfl, C1 ++ C2, ?_, ?_⟩
              · rw [← HAT.out, ← HBT.out]
                exact SS.turn HSA.out HSB.out HTN.out.1 HTN.out.2 HC1.out HC2'.out
              · rw [List.append_assoc]
                exact HM2.out
            · go_upto_region 43 with (fail)
              refine RS.wp_textE [(206, .int .i64 ((mid : Nat) : Int)), (207, .int .i64 (((mid + m) - j : Nat) : Int)), (208, .bool true), (209, .bool true), (210, .int .i64 (((mid + m) - j : Nat) : Int)), (211, .int .i64 ((b : Nat) : Int)), (212, .bool false), (213, .bool false)] (fun f w => wr = w) (by kernel_rfl) (by kernel_rfl) (fun f hf => ?_) ?_ ?_
              · rfl
              · exact ⟨RS.StepE.pure 206 (by kernel_rfl) rfl (fun w => by kernel_rfl) (fun f w h => h),
                  RS.StepE.pure 207 (by kernel_rfl) rfl (fun w => by kernel_rfl) (fun f w h => h),
                  RS.StepE.load 208 (.bool true) (by kernel_rfl) (by kernel_rfl) rfl (fun f w h => h) (fun f w p1 p2 h => n_lss (a := mid) (b := (mid + m) - j) (r := true) (decide_eq_true (show mid < (mid + m) - j from by omega)) rfl (by kernel_rfl) (by kernel_rfl)),
                  RS.StepE.pure 209 (by kernel_rfl) rfl (fun w => by kernel_rfl) (fun f w h => h),
                  RS.StepE.pure 210 (by kernel_rfl) rfl (fun w => by kernel_rfl) (fun f w h => h),
                  RS.StepE.pure 211 (by kernel_rfl) rfl (fun w => by kernel_rfl) (fun f w h => h),
                  RS.StepE.load 212 (.bool false) (by kernel_rfl) (by kernel_rfl) rfl (fun f w h => h) (fun f w p1 p2 h => n_lss (a := (mid + m) - j) (b := b) (r := false) (decide_eq_false (show ¬ ((mid + m) - j < b) from by omega)) rfl (by kernel_rfl) (by kernel_rfl)),
                  RS.StepE.pure 213 (by kernel_rfl) rfl (fun w => by kernel_rfl) (fun f w h => h), trivial⟩
              rintro f wx hf rfl
              clear hf
              (try simp only [RS.sets, List.setIfInBounds_toArray, List.set_cons_zero, List.set_cons_succ])
              go_wp2_with fail
              first | go_end0 | (refine bodyPost_ret (results_none rfl _ _ _) rfl ?_)
              refine ⟨rfl, C1 ++ (A2 ++ B2), ?_, ?_⟩
              · rw [← HAT.out, ← HBT.out]
                exact SS.turn HSA.out HSB.out HTN.out.1 HTN.out.2 HC1.out (SS.whole (srt_right HSA.out) (srt_right HSB.out) (.inr (List.eq_nil_of_length_eq_zero (by omega))))
              · rw [List.append_assoc]
                exact (by have := HM1.out; simpa using this)
          · go_upto_region 41 with (fail)
            refine RS.wp_textE [(192, .int .i64 ((a : Nat) : Int)), (193, .int .i64 ((j : Nat) : Int)), (194, .bool false), (195, .bool false), (196, undef), (197, undef), (198, undef), (199, .bool false)] (fun f w => wr = w) (by kernel_rfl) (by kernel_rfl) (fun f hf => ?_) ?_ ?_
            · rfl
            · exact ⟨RS.StepE.pure 192 (by kernel_rfl) rfl (fun w => by kernel_rfl) (fun f w h => h),
                RS.StepE.pure 193 (by kernel_rfl) rfl (fun w => by kernel_rfl) (fun f w h => h),
                RS.StepE.load 194 (.bool false) (by kernel_rfl) (by kernel_rfl) rfl (fun f w h => h) (fun f w p1 p2 h => n_lss (a := a) (b := j) (r := false) (decide_eq_false (show ¬ (a < j) from by omega)) rfl (by kernel_rfl) (by kernel_rfl)),
                RS.StepE.pure 195 (by kernel_rfl) rfl (fun w => by kernel_rfl) (fun f w h => h),
                RS.StepE.off 196 (by kernel_rfl) rfl (by kernel_rfl) (fun f w h => h),
                RS.StepE.off 197 (by kernel_rfl) rfl (by kernel_rfl) (fun f w h => h),
                RS.StepE.off 198 (by kernel_rfl) rfl (by kernel_rfl) (fun f w h => h),
                RS.StepE.pure 199 (by kernel_rfl) rfl (fun w => by kernel_rfl) (fun f w h => h), trivial⟩
            rintro f wx hf rfl
            clear hf
            (try simp only [RS.sets, List.setIfInBounds_toArray, List.set_cons_zero, List.set_cons_succ])
            obtain ⟨C1, hC1⟩ : ∃ C1, A1 ++ B1 = C1 := ⟨_, rfl⟩
            have HC1 := Aside0.mk (SS.whole (srt_left HSA.out) (srt_left HSB.out) (.inl (List.eq_nil_of_length_eq_zero (by omega))))
            have HM1 := HR
            rw [← List.append_assoc A1, hC1] at HM1
            have HC1 := Aside0.mk (show SS (A1 ++ B1) C1 by rw [← hC1]; exact HC1.out)
            clear hC1
            have lC1 : C1.length = mid - a := by rw [HC1.out.length, List.length_append, l2, l4]; omega
            have lPC : (P ++ C1).length = mid := by rw [List.length_append, lC1, HA.out]; omega
            by_cases hsb : mid + m - j < b
            · go_upto_region 43 with (fail)
              refine RS.wp_textE [(206, .int .i64 ((mid : Nat) : Int)), (207, .int .i64 (((mid + m) - j : Nat) : Int)), (208, .bool true), (209, .bool true), (210, .int .i64 (((mid + m) - j : Nat) : Int)), (211, .int .i64 ((b : Nat) : Int)), (212, .bool true), (213, .bool true)] (fun f w => wr = w) (by kernel_rfl) (by kernel_rfl) (fun f hf => ?_) ?_ ?_
              · rfl
              · exact ⟨RS.StepE.pure 206 (by kernel_rfl) rfl (fun w => by kernel_rfl) (fun f w h => h),
                  RS.StepE.pure 207 (by kernel_rfl) rfl (fun w => by kernel_rfl) (fun f w h => h),
                  RS.StepE.load 208 (.bool true) (by kernel_rfl) (by kernel_rfl) rfl (fun f w h => h) (fun f w p1 p2 h => n_lss (a := mid) (b := (mid + m) - j) (r := true) (decide_eq_true (show mid < (mid + m) - j from by omega)) rfl (by kernel_rfl) (by kernel_rfl)),
                  RS.StepE.pure 209 (by kernel_rfl) rfl (fun w => by kernel_rfl) (fun f w h => h),
                  RS.StepE.pure 210 (by kernel_rfl) rfl (fun w => by kernel_rfl) (fun f w h => h),
                  RS.StepE.pure 211 (by kernel_rfl) rfl (fun w => by kernel_rfl) (fun f w h => h),
                  RS.StepE.load 212 (.bool true) (by kernel_rfl) (by kernel_rfl) rfl (fun f w h => h) (fun f w p1 p2 h => n_lss (a := (mid + m) - j) (b := b) (r := true) (decide_eq_true (show (mid + m) - j < b from by omega)) rfl (by kernel_rfl) (by kernel_rfl)),
                  RS.StepE.pure 213 (by kernel_rfl) rfl (fun w => by kernel_rfl) (fun f w h => h), trivial⟩
              rintro f wx hf rfl
              clear hf
              (try simp only [RS.sets, List.setIfInBounds_toArray, List.set_cons_zero, List.set_cons_succ])
              go_upto_region 44 with (fail)
              refine RS.wp_textE [(214, .slice (some ⟨g, 0, none⟩) n cap), (215, .int .i64 ((mid : Nat) : Int)), (216, .int .i64 (((mid + m) - j : Nat) : Int)), (217, .int .i64 ((b : Nat) : Int)), (218, .func (.func 30) #[] #[]), (219, .tuple #[])] (fun f w => (f 5 = false → SW w0 base g cap (P ++ (C1 ++ (A2 ++ (B2 ++ S)))) w) ∧ (f 5 = true → ∃ C, SS (A2 ++ B2) C ∧ SW w0 base g cap (P ++ (C1 ++ (C ++ S))) w)) (by kernel_rfl) (by kernel_rfl) (fun f hf => ?_) ?_ ?_
              · exact ⟨fun _ => HM1.out, fun e => by rw [hf 5 (by decide)] at e; cases e⟩
              · exact ⟨RS.StepE.pure 214 (by kernel_rfl) rfl (fun w => by kernel_rfl) (fun f w h => h),
                  RS.StepE.pure 215 (by kernel_rfl) rfl (fun w => by kernel_rfl) (fun f w h => h),
                  RS.StepE.pure 216 (by kernel_rfl) rfl (fun w => by kernel_rfl) (fun f w h => h),
                  RS.StepE.pure 217 (by kernel_rfl) rfl (fun w => by kernel_rfl) (fun f w h => h),
                  RS.StepE.pure 218 (by kernel_rfl) rfl (fun w => by kernel_rfl) (fun f w h => h),
                  RS.StepE.call 219 43 #[.slice (some ⟨g, 0, none⟩) n cap, .int .i64 ((mid : Nat) : Int), .int .i64 ((mid + m - j : Nat) : Int), .int .i64 ((b : Nat) : Int), .func (.func 30) #[] #[]] (.tuple #[]) (by kernel_rfl) (by kernel_rfl) rfl (fun w => by kernel_rfl) (fun f w h0 p1 p2 h => by
                  have h := h.1 h0
                  have h2 := h.2
                  rw [← List.append_assoc P] at h2
                  refine (IH.out mid (mid + m - j) b (P ++ C1) A2 B2 S w (by omega) h2 (by have := HL.out; rw [EC.out] at this; simp only [List.length_append] at this ⊢; omega) lPC (by rw [lPC, l3]; omega) (by rw [lPC, l3, l5]; omega) (by omega) (by omega) (srt_right HSA.out) (srt_right HSB.out)).mono ?_
                  rintro e w' ⟨rfl, C, hC, h'⟩
                  rw [List.append_assoc] at h'
                  exact ⟨rfl, fun e => by simp [RS.upd] at e, fun _ => ⟨C, hC, h.1.trans h'.1, h'.2⟩⟩), trivial⟩
              rintro f w4 hf hs
              obtain ⟨C2, hC2, hs⟩ := hs.2 (hf 5)
              have HC2' := Aside0.mk hC2
              have HM2 := Aside0.mk hs
              clear hf hs hC2
              (try simp only [RS.sets, List.setIfInBounds_toArray, List.set_cons_zero, List.set_cons_succ])
              go_wp2_with fail
              first | go_end0 | (refine bodyPost_ret (results_none rfl _ _ _) rfl ?_)
              refine ⟨rfl, C1 ++ C2, ?_, ?_⟩
              · rw [← HAT.out, ← HBT.out]
                exact SS.turn HSA.out HSB.out HTN.out.1 HTN.out.2 HC1.out HC2'.out
              · rw [List.append_assoc]
                exact HM2.out
            · go_upto_region 43 with (fail)
              refine RS.wp_textE [(206, .int .i64 ((mid : Nat) : Int)), (207, .int .i64 (((mid + m) - j : Nat) : Int)), (208, .bool true), (209, .bool true), (210, .int .i64 (((mid + m) - j : Nat) : Int)), (211, .int .i64 ((b : Nat) : Int)), (212, .bool false), (213, .bool false)] (fun f w => wr = w) (by kernel_rfl) (by kernel_rfl) (fun f hf => ?_) ?_ ?_
              · rfl
              · exact ⟨RS.StepE.pure 206 (by kernel_rfl) rfl (fun w => by kernel_rfl) (fun f w h => h),
                  RS.StepE.pure 207 (by kernel_rfl) rfl (fun w => by kernel_rfl) (fun f w h => h),
                  RS.StepE.load 208 (.bool true) (by kernel_rfl) (by kernel_rfl) rfl (fun f w h => h) (fun f w p1 p2 h => n_lss (a := mid) (b := (mid + m) - j) (r := true) (decide_eq_true (show mid < (mid + m) - j from by omega)) rfl (by kernel_rfl) (by kernel_rfl)),
                  RS.StepE.pure 209 (by kernel_rfl) rfl (fun w => by kernel_rfl) (fun f w h => h),
                  RS.StepE.pure 210 (by kernel_rfl) rfl (fun w => by kernel_rfl) (fun f w h => h),
                  RS.StepE.pure 211 (by kernel_rfl) rfl (fun w => by kernel_rfl) (fun f w h => h),
                  RS.StepE.load 212 (.bool false) (by kernel_rfl) (by kernel_rfl) rfl (fun f w h => h) (fun f w p1 p2 h => n_lss (a := (mid + m) - j) (b := b) (r := false) (decide_eq_false (show ¬ ((mid + m) - j < b) from by omega)) rfl (by kernel_rfl) (by kernel_rfl)),
                  RS.StepE.pure 213 (by kernel_rfl) rfl (fun w => by kernel_rfl) (fun f w h => h), trivial⟩
              rintro f wx hf rfl
              clear hf
              (try simp only [RS.sets, List.setIfInBounds_toArray, List.set_cons_zero, List.set_cons_succ])
              go_wp2_with fail
              first | go_end0 | (refine bodyPost_ret (results_none rfl _ _ _) rfl ?_)
              refine ⟨rfl, C1 ++ (A2 ++ B2), ?_, ?_⟩
              · rw [← HAT.out, ← HBT.out]
                exact SS.turn HSA.out HSB.out HTN.out.1 HTN.out.2 HC1.out (SS.whole (srt_right HSA.out) (srt_right HSB.out) (.inr (List.eq_nil_of_length_eq_zero (by omega))))
              · rw [List.append_assoc]
                exact (by have := HM1.out; simpa using this)
        · go_upto_region 39 with (fail)
          refine RS.wp_textE [(178, .int .i64 ((j : Nat) : Int)), (179, .int .i64 ((m : Nat) : Int)), (180, .bool false), (181, .bool false), (182, undef), (183, undef), (184, undef), (185, .bool false)] (fun f w => wr = w) (by kernel_rfl) (by kernel_rfl) (fun f hf => ?_) ?_ ?_
          · rfl
          · exact ⟨RS.StepE.pure 178 (by kernel_rfl) rfl (fun w => by kernel_rfl) (fun f w h => h),
              RS.StepE.pure 179 (by kernel_rfl) rfl (fun w => by kernel_rfl) (fun f w h => h),
              RS.StepE.load 180 (.bool false) (by kernel_rfl) (by kernel_rfl) rfl (fun f w h => h) (fun f w p1 p2 h => n_lss (a := j) (b := m) (r := false) (decide_eq_false (show ¬ (j < m) from by omega)) rfl (by kernel_rfl) (by kernel_rfl)),
              RS.StepE.pure 181 (by kernel_rfl) rfl (fun w => by kernel_rfl) (fun f w h => h),
              RS.StepE.off 182 (by kernel_rfl) rfl (by kernel_rfl) (fun f w h => h),
              RS.StepE.off 183 (by kernel_rfl) rfl (by kernel_rfl) (fun f w h => h),
              RS.StepE.off 184 (by kernel_rfl) rfl (by kernel_rfl) (fun f w h => h),
              RS.StepE.pure 185 (by kernel_rfl) rfl (fun w => by kernel_rfl) (fun f w h => h), trivial⟩
          rintro f wx hf rfl
          clear hf
          (try simp only [RS.sets, List.setIfInBounds_toArray, List.set_cons_zero, List.set_cons_succ])
          have HR := HS1
          rw [turn_none (.inl (List.eq_nil_of_length_eq_zero (by omega)))] at HR
          have hr2 : P ++ A1 ++ (B1 ++ (A2 ++ (B2 ++ S))) = P ++ (A1 ++ (B1 ++ (A2 ++ (B2 ++ S)))) := by simp
          rw [hr2] at HR
          clear hr2
          by_cases hp : a < j
          · go_upto_region 41 with (fail)
            by_cases hq : j < mid
            · skip
              refine RS.wp_textE [(192, .int .i64 ((a : Nat) : Int)), (193, .int .i64 ((j : Nat) : Int)), (194, .bool true), (195, .bool true), (196, .int .i64 ((j : Nat) : Int)), (197, .int .i64 ((mid : Nat) : Int)), (198, .bool true), (199, .bool true)] (fun f w => wr = w) (by kernel_rfl) (by kernel_rfl) (fun f hf => ?_) ?_ ?_
              · rfl
              · exact ⟨RS.StepE.pure 192 (by kernel_rfl) rfl (fun w => by kernel_rfl) (fun f w h => h),
                  RS.StepE.pure 193 (by kernel_rfl) rfl (fun w => by kernel_rfl) (fun f w h => h),
                  RS.StepE.load 194 (.bool true) (by kernel_rfl) (by kernel_rfl) rfl (fun f w h => h) (fun f w p1 p2 h => n_lss (a := a) (b := j) (r := true) (decide_eq_true (show a < j from by omega)) rfl (by kernel_rfl) (by kernel_rfl)),
                  RS.StepE.pure 195 (by kernel_rfl) rfl (fun w => by kernel_rfl) (fun f w h => h),
                  RS.StepE.pure 196 (by kernel_rfl) rfl (fun w => by kernel_rfl) (fun f w h => h),
                  RS.StepE.pure 197 (by kernel_rfl) rfl (fun w => by kernel_rfl) (fun f w h => h),
                  RS.StepE.load 198 (.bool true) (by kernel_rfl) (by kernel_rfl) rfl (fun f w h => h) (fun f w p1 p2 h => n_lss (a := j) (b := mid) (r := true) (decide_eq_true (show j < mid from by omega)) rfl (by kernel_rfl) (by kernel_rfl)),
                  RS.StepE.pure 199 (by kernel_rfl) rfl (fun w => by kernel_rfl) (fun f w h => h), trivial⟩
              rintro f wx hf rfl
              clear hf
              (try simp only [RS.sets, List.setIfInBounds_toArray, List.set_cons_zero, List.set_cons_succ])
              go_upto_region 42 with (fail)
              refine RS.wp_textE [(200, .slice (some ⟨g, 0, none⟩) n cap), (201, .int .i64 ((a : Nat) : Int)), (202, .int .i64 ((j : Nat) : Int)), (203, .int .i64 ((mid : Nat) : Int)), (204, .func (.func 30) #[] #[]), (205, .tuple #[])] (fun f w => (f 5 = false → SW w0 base g cap (P ++ (A1 ++ (B1 ++ (A2 ++ (B2 ++ S))))) w) ∧ (f 5 = true → ∃ C, SS (A1 ++ B1) C ∧ SW w0 base g cap (P ++ (C ++ (A2 ++ (B2 ++ S)))) w)) (by kernel_rfl) (by kernel_rfl) (fun f hf => ?_) ?_ ?_
              · exact ⟨fun _ => HR.out, fun e => by rw [hf 5 (by decide)] at e; cases e⟩
              · exact ⟨RS.StepE.pure 200 (by kernel_rfl) rfl (fun w => by kernel_rfl) (fun f w h => h),
                  RS.StepE.pure 201 (by kernel_rfl) rfl (fun w => by kernel_rfl) (fun f w h => h),
                  RS.StepE.pure 202 (by kernel_rfl) rfl (fun w => by kernel_rfl) (fun f w h => h),
                  RS.StepE.pure 203 (by kernel_rfl) rfl (fun w => by kernel_rfl) (fun f w h => h),
                  RS.StepE.pure 204 (by kernel_rfl) rfl (fun w => by kernel_rfl) (fun f w h => h),
                  RS.StepE.call 205 43 #[.slice (some ⟨g, 0, none⟩) n cap, .int .i64 ((a : Nat) : Int), .int .i64 ((j : Nat) : Int), .int .i64 ((mid : Nat) : Int), .func (.func 30) #[] #[]] (.tuple #[]) (by kernel_rfl) (by kernel_rfl) rfl (fun w => by kernel_rfl) (fun f w h0 p1 p2 h => by
                  have h := h.1 h0
                  refine (IH.out a j mid P A1 B1 (A2 ++ (B2 ++ S)) w (by omega) h.2 (by have := HL.out; rw [EC.out] at this; simp only [List.length_append] at this ⊢; omega) HA.out (by rw [HA.out, l2]; omega) (by rw [HA.out, l2, l4]; omega) (by omega) (by omega) (srt_left HSA.out) (srt_left HSB.out)).mono ?_
                  rintro e w' ⟨rfl, C, hC, h'⟩
                  exact ⟨rfl, fun e => by simp [RS.upd] at e, fun _ => ⟨C, hC, h.1.trans h'.1, h'.2⟩⟩), trivial⟩
              rintro f w3 hf hs
              obtain ⟨C1, hC1, hs⟩ := hs.2 (hf 5)
              have HC1 := Aside0.mk hC1
              have HM1 := Aside0.mk hs
              clear hf hs hC1
              (try simp only [RS.sets, List.setIfInBounds_toArray, List.set_cons_zero, List.set_cons_succ])
              have lC1 : C1.length = mid - a := by rw [HC1.out.length, List.length_append, l2, l4]; omega
              have lPC : (P ++ C1).length = mid := by rw [List.length_append, lC1, HA.out]; omega
              · go_upto_region 43 with (fail)
                refine RS.wp_textE [(206, .int .i64 ((mid : Nat) : Int)), (207, .int .i64 (((mid + m) - j : Nat) : Int)), (208, .bool false), (209, .bool false), (210, undef), (211, undef), (212, undef), (213, .bool false)] (fun f w => w3 = w) (by kernel_rfl) (by kernel_rfl) (fun f hf => ?_) ?_ ?_
                · rfl
                · exact ⟨RS.StepE.pure 206 (by kernel_rfl) rfl (fun w => by kernel_rfl) (fun f w h => h),
                    RS.StepE.pure 207 (by kernel_rfl) rfl (fun w => by kernel_rfl) (fun f w h => h),
                    RS.StepE.load 208 (.bool false) (by kernel_rfl) (by kernel_rfl) rfl (fun f w h => h) (fun f w p1 p2 h => n_lss (a := mid) (b := (mid + m) - j) (r := false) (decide_eq_false (show ¬ (mid < (mid + m) - j) from by omega)) rfl (by kernel_rfl) (by kernel_rfl)),
                    RS.StepE.pure 209 (by kernel_rfl) rfl (fun w => by kernel_rfl) (fun f w h => h),
                    RS.StepE.off 210 (by kernel_rfl) rfl (by kernel_rfl) (fun f w h => h),
                    RS.StepE.off 211 (by kernel_rfl) rfl (by kernel_rfl) (fun f w h => h),
                    RS.StepE.off 212 (by kernel_rfl) rfl (by kernel_rfl) (fun f w h => h),
                    RS.StepE.pure 213 (by kernel_rfl) rfl (fun w => by kernel_rfl) (fun f w h => h), trivial⟩
                rintro f wx hf rfl
                clear hf
                (try simp only [RS.sets, List.setIfInBounds_toArray, List.set_cons_zero, List.set_cons_succ])
                go_wp2_with fail
                first | go_end0 | (refine bodyPost_ret (results_none rfl _ _ _) rfl ?_)
                refine ⟨rfl, C1 ++ (A2 ++ B2), ?_, ?_⟩
                · rw [← HAT.out, ← HBT.out]
                  exact SS.turn HSA.out HSB.out HTN.out.1 HTN.out.2 HC1.out (SS.whole (srt_right HSA.out) (srt_right HSB.out) (.inl (List.eq_nil_of_length_eq_zero (by omega))))
                · rw [List.append_assoc]
                  exact (by have := HM1.out; simpa using this)
            · skip
              refine RS.wp_textE [(192, .int .i64 ((a : Nat) : Int)), (193, .int .i64 ((j : Nat) : Int)), (194, .bool true), (195, .bool true), (196, .int .i64 ((j : Nat) : Int)), (197, .int .i64 ((mid : Nat) : Int)), (198, .bool false), (199, .bool false)] (fun f w => wr = w) (by kernel_rfl) (by kernel_rfl) (fun f hf => ?_) ?_ ?_
              · rfl
              · exact ⟨RS.StepE.pure 192 (by kernel_rfl) rfl (fun w => by kernel_rfl) (fun f w h => h),
                  RS.StepE.pure 193 (by kernel_rfl) rfl (fun w => by kernel_rfl) (fun f w h => h),
                  RS.StepE.load 194 (.bool true) (by kernel_rfl) (by kernel_rfl) rfl (fun f w h => h) (fun f w p1 p2 h => n_lss (a := a) (b := j) (r := true) (decide_eq_true (show a < j from by omega)) rfl (by kernel_rfl) (by kernel_rfl)),
                  RS.StepE.pure 195 (by kernel_rfl) rfl (fun w => by kernel_rfl) (fun f w h => h),
                  RS.StepE.pure 196 (by kernel_rfl) rfl (fun w => by kernel_rfl) (fun f w h => h),
                  RS.StepE.pure 197 (by kernel_rfl) rfl (fun w => by kernel_rfl) (fun f w h => h),
                  RS.StepE.load 198 (.bool false) (by kernel_rfl) (by kernel_rfl) rfl (fun f w h => h) (fun f w p1 p2 h => n_lss (a := j) (b := mid) (r := false) (decide_eq_false (show ¬ (j < mid) from by omega)) rfl (by kernel_rfl) (by kernel_rfl)),
                  RS.StepE.pure 199 (by kernel_rfl) rfl (fun w => by kernel_rfl) (fun f w h => h), trivial⟩
              rintro f wx hf rfl
              clear hf
              (try simp only [RS.sets, List.setIfInBounds_toArray, List.set_cons_zero, List.set_cons_succ])
              obtain ⟨C1, hC1⟩ : ∃ C1, A1 ++ B1 = C1 := ⟨_, rfl⟩
              have HC1 := Aside0.mk (SS.whole (srt_left HSA.out) (srt_left HSB.out) (.inr (List.eq_nil_of_length_eq_zero (by omega))))
              have HM1 := HR
              rw [← List.append_assoc A1, hC1] at HM1
              have HC1 := Aside0.mk (show SS (A1 ++ B1) C1 by rw [← hC1]; exact HC1.out)
              clear hC1
              have lC1 : C1.length = mid - a := by rw [HC1.out.length, List.length_append, l2, l4]; omega
              have lPC : (P ++ C1).length = mid := by rw [List.length_append, lC1, HA.out]; omega
              · go_upto_region 43 with (fail)
                refine RS.wp_textE [(206, .int .i64 ((mid : Nat) : Int)), (207, .int .i64 (((mid + m) - j : Nat) : Int)), (208, .bool false), (209, .bool false), (210, undef), (211, undef), (212, undef), (213, .bool false)] (fun f w => wr = w) (by kernel_rfl) (by kernel_rfl) (fun f hf => ?_) ?_ ?_
                · rfl
                · exact ⟨RS.StepE.pure 206 (by kernel_rfl) rfl (fun w => by kernel_rfl) (fun f w h => h),
                    RS.StepE.pure 207 (by kernel_rfl) rfl (fun w => by kernel_rfl) (fun f w h => h),
                    RS.StepE.load 208 (.bool false) (by kernel_rfl) (by kernel_rfl) rfl (fun f w h => h) (fun f w p1 p2 h => n_lss (a := mid) (b := (mid + m) - j) (r := false) (decide_eq_false (show ¬ (mid < (mid + m) - j) from by omega)) rfl (by kernel_rfl) (by kernel_rfl)),
                    RS.StepE.pure 209 (by kernel_rfl) rfl (fun w => by kernel_rfl) (fun f w h => h),
                    RS.StepE.off 210 (by kernel_rfl) rfl (by kernel_rfl) (fun f w h => h),
                    RS.StepE.off 211 (by kernel_rfl) rfl (by kernel_rfl) (fun f w h => h),
                    RS.StepE.off 212 (by kernel_rfl) rfl (by kernel_rfl) (fun f w h => h),
                    RS.StepE.pure 213 (by kernel_rfl) rfl (fun w => by kernel_rfl) (fun f w h => h), trivial⟩
                rintro f wx hf rfl
                clear hf
                (try simp only [RS.sets, List.setIfInBounds_toArray, List.set_cons_zero, List.set_cons_succ])
                go_wp2_with fail
                first | go_end0 | (refine bodyPost_ret (results_none rfl _ _ _) rfl ?_)
                refine ⟨rfl, C1 ++ (A2 ++ B2), ?_, ?_⟩
                · rw [← HAT.out, ← HBT.out]
                  exact SS.turn HSA.out HSB.out HTN.out.1 HTN.out.2 HC1.out (SS.whole (srt_right HSA.out) (srt_right HSB.out) (.inl (List.eq_nil_of_length_eq_zero (by omega))))
                · rw [List.append_assoc]
                  exact (by have := HM1.out; simpa using this)
          · go_upto_region 41 with (fail)
            refine RS.wp_textE [(192, .int .i64 ((a : Nat) : Int)), (193, .int .i64 ((j : Nat) : Int)), (194, .bool false), (195, .bool false), (196, undef), (197, undef), (198, undef), (199, .bool false)] (fun f w => wr = w) (by kernel_rfl) (by kernel_rfl) (fun f hf => ?_) ?_ ?_
            · rfl
            · exact ⟨RS.StepE.pure 192 (by kernel_rfl) rfl (fun w => by kernel_rfl) (fun f w h => h),
                RS.StepE.pure 193 (by kernel_rfl) rfl (fun w => by kernel_rfl) (fun f w h => h),
                RS.StepE.load 194 (.bool false) (by kernel_rfl) (by kernel_rfl) rfl (fun f w h => h) (fun f w p1 p2 h => n_lss (a := a) (b := j) (r := false) (decide_eq_false (show ¬ (a < j) from by omega)) rfl (by kernel_rfl) (by kernel_rfl)),
                RS.StepE.pure 195 (by kernel_rfl) rfl (fun w => by kernel_rfl) (fun f w h => h),
                RS.StepE.off 196 (by kernel_rfl) rfl (by kernel_rfl) (fun f w h => h),
                RS.StepE.off 197 (by kernel_rfl) rfl (by kernel_rfl) (fun f w h => h),
                RS.StepE.off 198 (by kernel_rfl) rfl (by kernel_rfl) (fun f w h => h),
                RS.StepE.pure 199 (by kernel_rfl) rfl (fun w => by kernel_rfl) (fun f w h => h), trivial⟩
            rintro f wx hf rfl
            clear hf
            (try simp only [RS.sets, List.setIfInBounds_toArray, List.set_cons_zero, List.set_cons_succ])
            obtain ⟨C1, hC1⟩ : ∃ C1, A1 ++ B1 = C1 := ⟨_, rfl⟩
            have HC1 := Aside0.mk (SS.whole (srt_left HSA.out) (srt_left HSB.out) (.inl (List.eq_nil_of_length_eq_zero (by omega))))
            have HM1 := HR
            rw [← List.append_assoc A1, hC1] at HM1
            have HC1 := Aside0.mk (show SS (A1 ++ B1) C1 by rw [← hC1]; exact HC1.out)
            clear hC1
            have lC1 : C1.length = mid - a := by rw [HC1.out.length, List.length_append, l2, l4]; omega
            have lPC : (P ++ C1).length = mid := by rw [List.length_append, lC1, HA.out]; omega
            · go_upto_region 43 with (fail)
              refine RS.wp_textE [(206, .int .i64 ((mid : Nat) : Int)), (207, .int .i64 (((mid + m) - j : Nat) : Int)), (208, .bool false), (209, .bool false), (210, undef), (211, undef), (212, undef), (213, .bool false)] (fun f w => wr = w) (by kernel_rfl) (by kernel_rfl) (fun f hf => ?_) ?_ ?_
              · rfl
              · exact ⟨RS.StepE.pure 206 (by kernel_rfl) rfl (fun w => by kernel_rfl) (fun f w h => h),
                  RS.StepE.pure 207 (by kernel_rfl) rfl (fun w => by kernel_rfl) (fun f w h => h),
                  RS.StepE.load 208 (.bool false) (by kernel_rfl) (by kernel_rfl) rfl (fun f w h => h) (fun f w p1 p2 h => n_lss (a := mid) (b := (mid + m) - j) (r := false) (decide_eq_false (show ¬ (mid < (mid + m) - j) from by omega)) rfl (by kernel_rfl) (by kernel_rfl)),
                  RS.StepE.pure 209 (by kernel_rfl) rfl (fun w => by kernel_rfl) (fun f w h => h),
                  RS.StepE.off 210 (by kernel_rfl) rfl (by kernel_rfl) (fun f w h => h),
                  RS.StepE.off 211 (by kernel_rfl) rfl (by kernel_rfl) (fun f w h => h),
                  RS.StepE.off 212 (by kernel_rfl) rfl (by kernel_rfl) (fun f w h => h),
                  RS.StepE.pure 213 (by kernel_rfl) rfl (fun w => by kernel_rfl) (fun f w h => h), trivial⟩
              rintro f wx hf rfl
              clear hf
              (try simp only [RS.sets, List.setIfInBounds_toArray, List.set_cons_zero, List.set_cons_succ])
              go_wp2_with fail
              first | go_end0 | (refine bodyPost_ret (results_none rfl _ _ _) rfl ?_)
              refine ⟨rfl, C1 ++ (A2 ++ B2), ?_, ?_⟩
              · rw [← HAT.out, ← HBT.out]
                exact SS.turn HSA.out HSB.out HTN.out.1 HTN.out.2 HC1.out (SS.whole (srt_right HSA.out) (srt_right HSB.out) (.inl (List.eq_nil_of_length_eq_zero (by omega))))
              · rw [List.append_assoc]
                exact (by have := HM1.out; simpa using this)
end Go.Proofs.Ytgdhciilobnelaa.B
