/- Blocks that are sorted: the plain laws of the stable sort. The stable sort of symbols. Rows of symbols, read and made longer. Arguments that are rows of structs, opened. -/
import Derived.Test.YtgdhciilobnelaaZf13
import Derived.Maps.AppendAt
import Derived.Deep.Slices
import Derived.ProofKit
namespace Go.Proofs.Ytgdhciilobnelaa.B
open Go.RowKit
set_option linter.unusedVariables false
set_option linter.unusedSimpArgs false
theorem sym_calls (base g cap n : Nat) (hm : n ≤ 1000000) : ∀ (N a m b : Nat) (P A B S : List S38) (w0 : World), b - a < N → SB base g cap (P ++ (A ++ (B ++ S))) w0 → (P ++ (A ++ (B ++ S))).length = n → P.length = a → P.length + A.length = m → P.length + A.length + B.length = b → 0 < A.length → 0 < B.length → Srt A → Srt B →
    Calls Try.prog 43 #[.slice (some ⟨g, 0, none⟩) n cap, .int .i64 (a : Int), .int .i64 (m : Int), .int .i64 (b : Int), .func (.func 30) #[] #[]] w0 fun e w' => e = .returned (.tuple #[]) ∧ ∃ C, SS (A ++ B) C ∧ SW w0 base g cap (P ++ (C ++ S)) w'
  | 0, a, m, b, P, A, B, S, w0, hN, _, _, _, _, _, _, _, _, _ => by omega
  | N + 1, a, m, b, P, A, B, S, w0, hN, h, hn, ha, hmm, hb, hA, hB, sa, sb => by
    by_cases h1 : A.length = 1
    · exact sym_one base g cap n a m b P A B S w0 h hn ha hmm hb hA hB sa sb hm h1
    · by_cases h2 : B.length = 1
      · exact sym_last base g cap n a m b P A B S w0 h hn ha hmm hb hA hB sa sb hm h1 h2
      · exact sym_main base g cap n a m b P A B S w0 h hn ha hmm hb hA hB sa sb hm h1 h2 (fun a' m' b' P' A' B' S' w hlt => sym_calls base g cap n hm N a' m' b' P' A' B' S' w (by omega))
def Bl (q r lim : Nat) (c : List S38) : Prop := ∀ i j, i < j → j < c.length → (j < lim → i / q = j / q → (c.getD i z38).f1 ≤ (c.getD j z38).f1) ∧ (lim ≤ i → i / r = j / r → (c.getD i z38).f1 ≤ (c.getD j z38).f1)
theorem srt_of_get {A : List S38} (h : ∀ i j, i < j → j < A.length → (A.getD i z38).f1 ≤ (A.getD j z38).f1) : Srt A :=
  List.pairwise_iff_getElem.2 fun i j hi hj hij => by
    have := h i j hij hj
    rw [List.getD_eq_getElem?_getD, List.getD_eq_getElem?_getD, List.getElem?_eq_getElem hi, List.getElem?_eq_getElem hj] at this
    exact this
theorem parts3 (c : List S38) {a b : Nat} (hab : a ≤ b) (hb : b ≤ c.length) : c = c.take a ++ ((c.take b).drop a ++ c.drop b) ∧ (c.take a).length = a ∧ ((c.take b).drop a).length = b - a := by
  refine ⟨?_, by rw [List.length_take]; omega, by rw [List.length_drop, List.length_take]; omega⟩
  have h1 : c.take a = (c.take b).take a := by rw [List.take_take, Nat.min_eq_left hab]
  rw [h1, ← List.append_assoc, List.take_append_drop, List.take_append_drop]
theorem mid_get (P X S : List S38) {i : Nat} (h1 : P.length ≤ i) (h2 : i < P.length + X.length) : (P ++ (X ++ S)).getD i z38 = X.getD (i - P.length) z38 := by
  have := get_A (P := P) (A := X) (R := S) (i := i - P.length) (by omega)
  rw [show P.length + (i - P.length) = i by omega] at this
  exact this
theorem low_get (P X S : List S38) {i : Nat} (h1 : i < P.length) : (P ++ (X ++ S)).getD i z38 = P.getD i z38 := by
  rw [List.getD_eq_getElem?_getD, List.getElem?_append_left h1, ← List.getD_eq_getElem?_getD]
theorem high_get (P X S : List S38) {i : Nat} (h1 : P.length + X.length ≤ i) : (P ++ (X ++ S)).getD i z38 = S.getD (i - (P.length + X.length)) z38 := by
  rw [List.getD_eq_getElem?_getD, List.getElem?_append_right (by omega), List.getElem?_append_right (by omega), ← List.getD_eq_getElem?_getD, show i - P.length - X.length = i - (P.length + X.length) by omega]
theorem Bl.next {P X Y S : List S38} {q r a b : Nat} (h : Bl q r a (P ++ (X ++ S))) (hs : SS X Y) (ha : P.length = a) (hb : P.length + X.length = b) (hq : ∀ i j, i < a → a ≤ j → j < b → i / q ≠ j / q) : Bl q r b (P ++ (Y ++ S)) := by
  have hl := hs.length
  intro i j hij hj
  constructor
  · intro hjb he
    by_cases hja : j < a
    · have := (h i j hij (by simp only [List.length_append] at hj ⊢; omega)).1 hja he
      rw [low_get _ _ _ (by omega), low_get _ _ _ (by omega)] at this
      rw [low_get _ _ _ (by omega), low_get _ _ _ (by omega)]
      exact this
    · by_cases hia : i < a
      · exact absurd he (hq i j hia (by omega) hjb)
      · rw [mid_get _ _ _ (by omega) (by omega), mid_get _ _ _ (by omega) (by omega)]
        exact srt_get hs.1 (by omega) (by omega)
  · intro hbi he
    have := (h i j hij (by simp only [List.length_append] at hj ⊢; omega)).2 (by omega) he
    rw [high_get _ _ _ (by omega), high_get _ _ _ (by omega)] at this
    rw [high_get _ _ _ (by omega), high_get _ _ _ (by omega), hl]
    exact this
theorem Bl.part {c : List S38} {q r lim a b : Nat} (h : Bl q r lim c) (hl : lim ≤ a) (hb : b ≤ c.length) (hr : ∀ i, a ≤ i → i < b → i / r = a / r) : Srt ((c.take b).drop a) := by
  by_cases hab : a ≤ b
  · obtain ⟨e, l1, l2⟩ := parts3 c hab hb
    refine srt_of_get fun i j hij hj => ?_
    have := (h (a + i) (a + j) (by omega) (by omega)).2 (by omega) (by rw [hr (a + i) (by omega) (by omega), hr (a + j) (by omega) (by omega)])
    have m1 := mid_get (c.take a) ((c.take b).drop a) (c.drop b) (i := a + i) (by omega) (by omega)
    have m2 := mid_get (c.take a) ((c.take b).drop a) (c.drop b) (i := a + j) (by omega) (by omega)
    rw [← e, l1, Nat.add_sub_cancel_left] at m1 m2
    rw [m1, m2] at this
    exact this
  · rw [List.drop_of_length_le (by rw [List.length_take]; omega)]
    exact List.Pairwise.nil
theorem Bl.all {c : List S38} {q r lim : Nat} (h : Bl q r lim c) (hq : c.length ≤ q) (hl : c.length ≤ lim) : Srt c :=
  srt_of_get fun i j hij hj => (h i j hij hj).1 (by omega) (by rw [Nat.div_eq_of_lt (by omega), Nat.div_eq_of_lt (by omega)])
theorem Bl.zero {c : List S38} {q r : Nat} (h : Bl r q c.length c) (q' : Nat) : Bl q' r 0 c := fun i j hij hj => ⟨fun h0 => by omega, fun _ he => (h i j hij hj).1 hj he⟩
theorem Bl.tail {c : List S38} {q r lim : Nat} (h : Bl q r lim c) (hr : ∀ i, lim ≤ i → i < c.length → i / r = lim / r) (hq : ∀ i j, i < lim → lim ≤ j → j < c.length → i / q ≠ j / q) : Bl q r c.length c := by
  intro i j hij hj
  refine ⟨fun _ he => ?_, fun h0 => by omega⟩
  by_cases h1 : j < lim
  · exact (h i j hij hj).1 h1 he
  · by_cases h2 : i < lim
    · exact absurd he (hq i j h2 (by omega) hj)
    · exact (h i j hij hj).2 (by omega) (by rw [hr i (by omega) (by omega), hr j (by omega) hj])
theorem Bl.start (q : Nat) (c : List S38) : Bl q 1 0 c := fun i j hij hj => ⟨fun h0 => by omega, fun _ he => by simp at he; omega⟩
theorem blk_div {q t a : Nat} (hq : 0 < q) (ha : a = q * t) {i : Nat} (h1 : a ≤ i) (h2 : i < a + q) : i / q = t := by
  subst ha
  rw [Nat.div_eq_of_lt_le (by rw [Nat.mul_comm]; exact h1) (by rw [Nat.add_mul, Nat.mul_comm t q]; omega)]
theorem blk_low {q t a : Nat} (hq : 0 < q) (ha : a = q * t) {i : Nat} (h : i < a) : i / q < t := by
  subst ha
  exact (Nat.div_lt_iff_lt_mul hq).2 (by rw [Nat.mul_comm]; exact h)
theorem blk_high {q t a : Nat} (hq : 0 < q) (ha : a = q * t) {i : Nat} (h : a ≤ i) : t ≤ i / q := by
  subst ha
  exact (Nat.le_div_iff_mul_le hq).2 (by rw [Nat.mul_comm]; exact h)
end Go.Proofs.Ytgdhciilobnelaa.B
namespace Go.Proofs.Ytgdhciilobnelaa.B
open Go.RowKit Go.Lib Go.Proofs.YtgdhciilobnelaaW.PrintWords Go.Proofs.YtgdhciilobnelaaW.PrintLast Go.Proofs.YtgdhciilobnelaaW.PrintMore Go.RF
set_option linter.unusedVariables false
set_option linter.unusedSimpArgs false
attribute [local go_sem] max2_int min2_int max_two min_two
set_option maxHeartbeats 8000000 in
set_option maxRecDepth 100000 in
theorem stable_calls (base g cap n : Nat) (xs : List S38) (w0 : World) (h : SB base g cap xs w0) (hn : xs.length = n) (hm : n ≤ 1000000) :
    Calls Try.prog 38 #[.slice (some ⟨g, 0, none⟩) n cap, .int .i64 (n : Int), .func (.func 30) #[] #[]] w0 fun e w' => e = .returned (.tuple #[]) ∧ ∃ ys, SS xs ys ∧ SW w0 base g cap ys w' := by
  have H := Aside0.mk h
  have HN := Aside0.mk hn
  clear h hn
  go_enter Try.func38, Try.ntmps38
  go_upto_region 0 with (fail)
  refine RS.wp_textE [(6, .int .i64 ((20 : Nat) : Int))] (fun f w => w0 = w) (by kernel_rfl) (by kernel_rfl) (fun f hf => ?_) ?_ ?_
  · rfl
  · exact ⟨RS.StepE.pure 6 (by kernel_rfl) rfl (fun w => by kernel_rfl) (fun f w h => h), trivial⟩
  rintro f wx hf rfl
  clear hf
  (try simp only [RS.sets, List.setIfInBounds_toArray, List.set_cons_zero, List.set_cons_succ])
  go_upto_region 1 with (fail)
  refine RS.wp_textE [(10, .int .i64 ((20 : Nat) : Int)), (7, .int .i64 ((0 : Nat) : Int)), (8, .int .i64 ((20 : Nat) : Int))] (fun f w => w0 = w) (by kernel_rfl) (by kernel_rfl) (fun f hf => ?_) ?_ ?_
  · rfl
  · exact ⟨RS.StepE.pure 10 (by kernel_rfl) rfl (fun w => by kernel_rfl) (fun f w h => h),
      RS.StepE.pure 7 (by kernel_rfl) rfl (fun w => by kernel_rfl) (fun f w h => h),
      RS.StepE.pure 8 (by kernel_rfl) rfl (fun w => by kernel_rfl) (fun f w h => h), trivial⟩
  rintro f wx hf rfl
  clear hf
  (try simp only [RS.sets, List.setIfInBounds_toArray, List.set_cons_zero, List.set_cons_succ])
  go_upto_region 2 with (fail)
  go_loopw [7, 8] (fun t u wr => ∃ a k : Nat, t = .int .i64 (a : Int) ∧ u = .int .i64 ((a + 20 : Nat) : Int) ∧ a = 20 * k ∧ a ≤ n ∧ ∃ cur, Fk xs cur ∧ Bl 20 1 a cur ∧ cur.length = n ∧ SW w0 base g cap cur wr) (fun t u _ => ((n : Int) - intOf t).toNat)
  case atStart => exact ⟨0, 0, rfl, rfl, rfl, Nat.zero_le _, xs, Fk.refl _, Bl.start _ _, HN.out, SW.start H.out⟩
  case round =>
    obtain ⟨a, k, rfl, rfl, hak, han, cur, hf0, hb0, hl, hs⟩ := hrel
    have HS := Aside0.mk hs
    have HF := Aside0.mk hf0
    have HBL := Aside0.mk hb0
    have HL := Aside0.mk hl
    clear hs hf0 hb0 hl
    by_cases hlt : a + 20 ≤ n
    · have EP := Aside0.mk (parts3 cur (show a ≤ a + 20 by omega) (by rw [HL.out]; exact hlt))
      go_upto_region 2 with (fail)
      refine RS.wp_textE [(11, .int .i64 ((a + 20 : Nat) : Int)), (12, .int .i64 ((n : Nat) : Int)), (13, .bool true)] (fun f w => wr = w) (by kernel_rfl) (by kernel_rfl) (fun f hf => ?_) ?_ ?_
      · rfl
      · exact ⟨RS.StepE.pure 11 (by kernel_rfl) rfl (fun w => by kernel_rfl) (fun f w h => h),
          RS.StepE.pure 12 (by kernel_rfl) rfl (fun w => by kernel_rfl) (fun f w h => h),
          RS.StepE.load 13 (.bool true) (by kernel_rfl) (by kernel_rfl) rfl (fun f w h => h) (fun f w p1 p2 h => n_leq (a := a + 20) (b := n) (r := true) (decide_eq_true (show a + 20 ≤ n from by omega)) rfl (by kernel_rfl) (by kernel_rfl)), trivial⟩
      rintro f wx hf rfl
      clear hf
      (try simp only [RS.sets, List.setIfInBounds_toArray, List.set_cons_zero, List.set_cons_succ])
      go_upto_region 3 with (fail)
      refine RS.wp_textE [(14, .slice (some ⟨g, 0, none⟩) n cap), (15, .int .i64 ((a : Nat) : Int)), (16, .int .i64 ((a + 20 : Nat) : Int)), (17, .func (.func 30) #[] #[]), (18, .tuple #[])] (fun f w => (f 4 = false → SW w0 base g cap cur w) ∧ (f 4 = true → ∃ C, SS ((cur.take (a + 20)).drop a) C ∧ SW w0 base g cap (cur.take a ++ (C ++ cur.drop (a + 20))) w)) (by kernel_rfl) (by kernel_rfl) (fun f hf => ?_) ?_ ?_
      · exact ⟨fun _ => HS.out, fun e => by rw [hf 4 (by decide)] at e; cases e⟩
      · exact ⟨RS.StepE.pure 14 (by kernel_rfl) rfl (fun w => by kernel_rfl) (fun f w h => h),
          RS.StepE.pure 15 (by kernel_rfl) rfl (fun w => by kernel_rfl) (fun f w h => h),
          RS.StepE.pure 16 (by kernel_rfl) rfl (fun w => by kernel_rfl) (fun f w h => h),
          RS.StepE.pure 17 (by kernel_rfl) rfl (fun w => by kernel_rfl) (fun f w h => h),
          RS.StepE.call 18 42 #[.slice (some ⟨g, 0, none⟩) n cap, .int .i64 ((a : Nat) : Int), .int .i64 ((a + 20 : Nat) : Int), .func (.func 30) #[] #[]] (.tuple #[]) (by kernel_rfl) (by kernel_rfl) rfl (fun w => by kernel_rfl) (fun f w h0 p1 p2 h => by
          have h := h.1 h0
          have h2 := h.2
          rw [EP.out.1] at h2
          refine (insertion_calls base g cap n a (a + 20) (cur.take a) ((cur.take (a + 20)).drop a) (cur.drop (a + 20)) w h2 (by rw [← EP.out.1]; exact HL.out) EP.out.2.1 (by rw [EP.out.2.1, EP.out.2.2]; omega) hm).mono ?_
          rintro e w' ⟨rfl, C, hC, h'⟩
          exact ⟨rfl, fun e => by simp [RS.upd] at e, fun _ => ⟨C, hC, h.1.trans h'.1, h'.2⟩⟩), trivial⟩
      rintro f w2 hf hs
      obtain ⟨C, hC, hs⟩ := hs.2 (hf 4)
      have HC := Aside0.mk hC
      have H2 := Aside0.mk hs
      clear hf hs hC
      (try simp only [RS.sets, List.setIfInBounds_toArray, List.set_cons_zero, List.set_cons_succ])
      go_upto_region 4 with (fail)
      refine RS.wp_textE [(19, .int .i64 ((a + 20 : Nat) : Int)), (7, .int .i64 ((a + 20 : Nat) : Int))] (fun f w => w2 = w) (by kernel_rfl) (by kernel_rfl) (fun f hf => ?_) ?_ ?_
      · rfl
      · exact ⟨RS.StepE.pure 19 (by kernel_rfl) rfl (fun w => by kernel_rfl) (fun f w h => h),
          RS.StepE.pure 7 (by kernel_rfl) rfl (fun w => by kernel_rfl) (fun f w h => h), trivial⟩
      rintro f wx hf rfl
      clear hf
      (try simp only [RS.sets, List.setIfInBounds_toArray, List.set_cons_zero, List.set_cons_succ])
      go_upto_region 5 with (fail)
      refine wp_region_lit ?_
      refine RS.seq1 (by kernel_rfl) (.int .i64 ((a + 20 : Nat) : Int)) (by kernel_rfl) ?_
      refine RS.seq1 (by kernel_rfl) (.int .i64 ((20 : Nat) : Int)) (by kernel_rfl) ?_
      refine RS.seq1 (by kernel_rfl) (.int .i64 ((a + 20 + 20 : Nat) : Int)) (n_add (by omega) rfl (by kernel_rfl) (by kernel_rfl)) ?_
      refine RS.seq1 (by kernel_rfl) (.int .i64 ((a + 20 + 20 : Nat) : Int)) (by kernel_rfl) ?_
      (try simp only [Act.put, List.setIfInBounds_toArray, List.set_cons_zero, List.set_cons_succ])
      go_wp2_with fail
      have hb1 := HBL.out
      have hf1 := (HC.out.fk).mid (cur.take a) (cur.drop (a + 20))
      rw [List.append_assoc, List.append_assoc, ← EP.out.1] at hf1
      rw [EP.out.1] at hb1
      refine ⟨⟨a + 20, k + 1, rfl, rfl, by omega, by omega, _, HF.out.trans hf1, hb1.next HC.out EP.out.2.1 (by rw [EP.out.2.1, EP.out.2.2]; omega) (fun i j h1 h2 h3 he => ?_), ?_, H2.out⟩, by simp [intOf]; omega⟩
      · have q1 := blk_low (q := 20) (by omega) hak h1
        have q2 := blk_high (q := 20) (by omega) hak h2
        omega
      · rw [← HL.out]
        exact hf1.length
    · have EP := Aside0.mk (parts3 cur (show a ≤ n by omega) (by rw [HL.out]; exact Nat.le_refl _))
      go_upto_region 2 with (fail)
      refine RS.wp_textE [(11, .int .i64 ((a + 20 : Nat) : Int)), (12, .int .i64 ((n : Nat) : Int)), (13, .bool false)] (fun f w => wr = w) (by kernel_rfl) (by kernel_rfl) (fun f hf => ?_) ?_ ?_
      · rfl
      · exact ⟨RS.StepE.pure 11 (by kernel_rfl) rfl (fun w => by kernel_rfl) (fun f w h => h),
          RS.StepE.pure 12 (by kernel_rfl) rfl (fun w => by kernel_rfl) (fun f w h => h),
          RS.StepE.load 13 (.bool false) (by kernel_rfl) (by kernel_rfl) rfl (fun f w h => h) (fun f w p1 p2 h => n_leq (a := a + 20) (b := n) (r := false) (decide_eq_false (show ¬ (a + 20 ≤ n) from by omega)) rfl (by kernel_rfl) (by kernel_rfl)), trivial⟩
      rintro f wx hf rfl
      clear hf
      (try simp only [RS.sets, List.setIfInBounds_toArray, List.set_cons_zero, List.set_cons_succ])
      go_upto_region 6 with (fail)
      refine RS.wp_textE [(23, .slice (some ⟨g, 0, none⟩) n cap), (24, .int .i64 ((a : Nat) : Int)), (25, .int .i64 ((n : Nat) : Int)), (26, .func (.func 30) #[] #[]), (27, .tuple #[])] (fun f w => (f 4 = false → SW w0 base g cap cur w) ∧ (f 4 = true → ∃ C, SS ((cur.take n).drop a) C ∧ SW w0 base g cap (cur.take a ++ (C ++ cur.drop n)) w)) (by kernel_rfl) (by kernel_rfl) (fun f hf => ?_) ?_ ?_
      · exact ⟨fun _ => HS.out, fun e => by rw [hf 4 (by decide)] at e; cases e⟩
      · exact ⟨RS.StepE.pure 23 (by kernel_rfl) rfl (fun w => by kernel_rfl) (fun f w h => h),
          RS.StepE.pure 24 (by kernel_rfl) rfl (fun w => by kernel_rfl) (fun f w h => h),
          RS.StepE.pure 25 (by kernel_rfl) rfl (fun w => by kernel_rfl) (fun f w h => h),
          RS.StepE.pure 26 (by kernel_rfl) rfl (fun w => by kernel_rfl) (fun f w h => h),
          RS.StepE.call 27 42 #[.slice (some ⟨g, 0, none⟩) n cap, .int .i64 ((a : Nat) : Int), .int .i64 ((n : Nat) : Int), .func (.func 30) #[] #[]] (.tuple #[]) (by kernel_rfl) (by kernel_rfl) rfl (fun w => by kernel_rfl) (fun f w h0 p1 p2 h => by
          have h := h.1 h0
          have h2 := h.2
          rw [EP.out.1] at h2
          refine (insertion_calls base g cap n a n (cur.take a) ((cur.take n).drop a) (cur.drop n) w h2 (by rw [← EP.out.1]; exact HL.out) EP.out.2.1 (by rw [EP.out.2.1, EP.out.2.2]; omega) hm).mono ?_
          rintro e w' ⟨rfl, C, hC, h'⟩
          exact ⟨rfl, fun e => by simp [RS.upd] at e, fun _ => ⟨C, hC, h.1.trans h'.1, h'.2⟩⟩), trivial⟩
      rintro f w2 hf hs
      obtain ⟨C, hC, hs⟩ := hs.2 (hf 4)
      have HC := Aside0.mk hC
      have H2 := Aside0.mk hs
      clear hf hs hC
      (try simp only [RS.sets, List.setIfInBounds_toArray, List.set_cons_zero, List.set_cons_succ])
      have hb1 := HBL.out
      have hf1 := (HC.out.fk).mid (cur.take a) (cur.drop n)
      rw [List.append_assoc, List.append_assoc, ← EP.out.1] at hf1
      rw [EP.out.1] at hb1
      have hb2 := hb1.next HC.out EP.out.2.1 (b := n) (by rw [EP.out.2.1, EP.out.2.2]; omega) (fun i j h1 h2 h3 he => by
        have q1 := blk_low (q := 20) (by omega) hak h1
        have q2 := blk_high (q := 20) (by omega) hak h2
        omega)
      have hf2 := HF.out.trans hf1
      generalize cur.take a ++ (C ++ cur.drop n) = c2 at *
      have HF2 := Aside0.mk hf2
      have HB2 := Aside0.mk hb2
      have HL2 := Aside0.mk (show c2.length = n by rw [hf2.length]; exact HN.out)
      clear hb1 hf1 hb2 hf2 EP HC HL HF HBL HS
      go_upto_region 7 with (fail)
      go_loopw [6] (fun t wq => ∃ q r : Nat, t = .int .i64 (q : Int) ∧ 20 ≤ q ∧ q ≤ 2000000 ∧ ∃ cur, Fk xs cur ∧ Bl q r n cur ∧ cur.length = n ∧ SW w0 base g cap cur wq) (fun t _ => ((n : Int) - intOf t).toNat)
      case atStart => exact ⟨20, 1, rfl, by omega, by omega, c2, HF2.out, HB2.out, HL2.out, H2.out⟩
      case round =>
        obtain ⟨q, r, rfl, hq, hq2, c3, hf0, hb0, hl, hs⟩ := hrel
        have HS3 := Aside0.mk hs
        have HF3 := Aside0.mk hf0
        have HB3 := Aside0.mk hb0
        have HL3 := Aside0.mk hl
        clear hs hf0 hb0 hl
        by_cases hqn : q < n
        · go_upto_region 7 with (fail)
          refine RS.wp_textE [(28, .int .i64 ((q : Nat) : Int)), (29, .int .i64 ((n : Nat) : Int)), (30, .bool true)] (fun f w => wr = w) (by kernel_rfl) (by kernel_rfl) (fun f hf => ?_) ?_ ?_
          · rfl
          · exact ⟨RS.StepE.pure 28 (by kernel_rfl) rfl (fun w => by kernel_rfl) (fun f w h => h),
              RS.StepE.pure 29 (by kernel_rfl) rfl (fun w => by kernel_rfl) (fun f w h => h),
              RS.StepE.load 30 (.bool true) (by kernel_rfl) (by kernel_rfl) rfl (fun f w h => h) (fun f w p1 p2 h => n_lss (a := q) (b := n) (r := true) (decide_eq_true (show q < n from by omega)) rfl (by kernel_rfl) (by kernel_rfl)), trivial⟩
          rintro f wx hf rfl
          clear hf
          (try simp only [RS.sets, List.setIfInBounds_toArray, List.set_cons_zero, List.set_cons_succ])
          go_upto_region 8 with (fail)
          refine RS.wp_textE [(31, .int .i64 ((q : Nat) : Int)), (32, .int .i64 ((2 * q : Nat) : Int)), (7, .int .i64 ((0 : Nat) : Int)), (8, .int .i64 ((2 * q : Nat) : Int))] (fun f w => wr = w) (by kernel_rfl) (by kernel_rfl) (fun f hf => ?_) ?_ ?_
          · rfl
          · exact ⟨RS.StepE.pure 31 (by kernel_rfl) rfl (fun w => by kernel_rfl) (fun f w h => h),
              RS.StepE.load 32 (.int .i64 ((2 * q : Nat) : Int)) (by kernel_rfl) (by kernel_rfl) rfl (fun f w h => h) (fun f w p1 p2 h => n_mul (by omega) rfl (by kernel_rfl) (by kernel_rfl)),
              RS.StepE.pure 7 (by kernel_rfl) rfl (fun w => by kernel_rfl) (fun f w h => h),
              RS.StepE.pure 8 (by kernel_rfl) rfl (fun w => by kernel_rfl) (fun f w h => h), trivial⟩
          rintro f wx hf rfl
          clear hf
          (try simp only [RS.sets, List.setIfInBounds_toArray, List.set_cons_zero, List.set_cons_succ])
          go_upto_region 9 with (fail)
          go_loopw [7, 8] (fun t u wt => ∃ a k : Nat, t = .int .i64 (a : Int) ∧ u = .int .i64 ((a + 2 * q : Nat) : Int) ∧ a = 2 * q * k ∧ a ≤ n ∧ ∃ cur, Fk xs cur ∧ Bl (2 * q) q a cur ∧ cur.length = n ∧ SW w0 base g cap cur wt) (fun t u _ => ((n : Int) - intOf t).toNat)
          case atStart => exact ⟨0, 0, rfl, by rw [Nat.zero_add], rfl, Nat.zero_le _, c3, HF3.out, (show Bl q r c3.length c3 by rw [HL3.out]; exact HB3.out).zero _, HL3.out, HS3.out⟩
          case round =>
            obtain ⟨a, k, rfl, rfl, hak, han, cur, hf0, hb0, hl, hs⟩ := hrel
            have HS := Aside0.mk hs
            have HF := Aside0.mk hf0
            have HBL := Aside0.mk hb0
            have HL := Aside0.mk hl
            have hak2 : a = q * (2 * k) := by rw [hak, Nat.mul_comm 2 q, Nat.mul_assoc]
            have hd1 : ∀ i, a ≤ i → i < a + q → i / q = a / q := fun i h1 h2 => by
              rw [blk_div (by omega) hak2 h1 h2, blk_div (by omega) hak2 (Nat.le_refl _) (by omega)]
            have hd2 : ∀ i, a + q ≤ i → i < a + q + q → i / q = (a + q) / q := fun i h1 h2 => by
              have e : a + q = q * (2 * k + 1) := by rw [hak2, Nat.mul_add, Nat.mul_one]
              rw [blk_div (by omega) e h1 h2, blk_div (by omega) e (Nat.le_refl _) (by omega)]
            have hd3 : ∀ i j, i < a → a ≤ j → i / (2 * q) ≠ j / (2 * q) := fun i j h1 h2 he => by
              have q1 := blk_low (q := 2 * q) (by omega) hak h1
              have q2 := blk_high (q := 2 * q) (by omega) hak h2
              omega
            have HD1 := Aside0.mk hd1
            have HD2 := Aside0.mk hd2
            have HD3 := Aside0.mk hd3
            have HAK := Aside0.mk hak
            clear hs hf0 hb0 hl hd1 hd2 hd3 hak2 hak
            by_cases hlt : a + 2 * q ≤ n
            · have E1 := Aside0.mk (parts3 cur (show a ≤ a + q by omega) (by rw [HL.out]; omega))
              have E2 := Aside0.mk (parts3 cur (show a + q ≤ a + 2 * q by omega) (by rw [HL.out]; omega))
              go_upto_region 9 with (fail)
              refine RS.wp_textE [(33, .int .i64 ((a + 2 * q : Nat) : Int)), (34, .int .i64 ((n : Nat) : Int)), (35, .bool true)] (fun f w => wr = w) (by kernel_rfl) (by kernel_rfl) (fun f hf => ?_) ?_ ?_
              · rfl
              · exact ⟨RS.StepE.pure 33 (by kernel_rfl) rfl (fun w => by kernel_rfl) (fun f w h => h),
                  RS.StepE.pure 34 (by kernel_rfl) rfl (fun w => by kernel_rfl) (fun f w h => h),
                  RS.StepE.load 35 (.bool true) (by kernel_rfl) (by kernel_rfl) rfl (fun f w h => h) (fun f w p1 p2 h => n_leq (a := a + 2 * q) (b := n) (r := true) (decide_eq_true (show a + 2 * q ≤ n from by omega)) rfl (by kernel_rfl) (by kernel_rfl)), trivial⟩
              rintro f wx hf rfl
              clear hf
              (try simp only [RS.sets, List.setIfInBounds_toArray, List.set_cons_zero, List.set_cons_succ])
              have EP := Aside0.mk (show cur = cur.take a ++ ((cur.take (a + q)).drop a ++ ((cur.take (a + 2 * q)).drop (a + q) ++ cur.drop (a + 2 * q))) by
                  have h1 := E1.out.1
                  have h2 := E2.out.1
                  have h3 : cur.take (a + q) = cur.take a ++ (cur.take (a + q)).drop a := by
                    have := List.take_append_drop a (cur.take (a + q))
                    rw [List.take_take, Nat.min_eq_left (by omega)] at this
                    exact this.symm
                  rw [h3, List.append_assoc] at h2
                  exact h2)
              go_upto_region 10 with (fail)
              refine RS.wp_textE [(36, .slice (some ⟨g, 0, none⟩) n cap), (37, .int .i64 ((a : Nat) : Int)), (38, .int .i64 ((a : Nat) : Int)), (39, .int .i64 ((q : Nat) : Int)), (40, .int .i64 ((a + q : Nat) : Int)), (41, .int .i64 ((a + 2 * q : Nat) : Int)), (42, .func (.func 30) #[] #[]), (43, .tuple #[])] (fun f w => (f 7 = false → SW w0 base g cap cur w) ∧ (f 7 = true → ∃ C, SS ((cur.take (a + q)).drop a ++ (cur.take (a + 2 * q)).drop (a + q)) C ∧ SW w0 base g cap (cur.take a ++ (C ++ cur.drop (a + 2 * q))) w)) (by kernel_rfl) (by kernel_rfl) (fun f hf => ?_) ?_ ?_
              · exact ⟨fun _ => HS.out, fun e => by rw [hf 7 (by decide)] at e; cases e⟩
              · exact ⟨RS.StepE.pure 36 (by kernel_rfl) rfl (fun w => by kernel_rfl) (fun f w h => h),
                  RS.StepE.pure 37 (by kernel_rfl) rfl (fun w => by kernel_rfl) (fun f w h => h),
                  RS.StepE.pure 38 (by kernel_rfl) rfl (fun w => by kernel_rfl) (fun f w h => h),
                  RS.StepE.pure 39 (by kernel_rfl) rfl (fun w => by kernel_rfl) (fun f w h => h),
                  RS.StepE.load 40 (.int .i64 ((a + q : Nat) : Int)) (by kernel_rfl) (by kernel_rfl) rfl (fun f w h => h) (fun f w p1 p2 h => n_add (by omega) rfl (by kernel_rfl) (by kernel_rfl)),
                  RS.StepE.pure 41 (by kernel_rfl) rfl (fun w => by kernel_rfl) (fun f w h => h),
                  RS.StepE.pure 42 (by kernel_rfl) rfl (fun w => by kernel_rfl) (fun f w h => h),
                  RS.StepE.call 43 43 #[.slice (some ⟨g, 0, none⟩) n cap, .int .i64 ((a : Nat) : Int), .int .i64 ((a + q : Nat) : Int), .int .i64 ((a + 2 * q : Nat) : Int), .func (.func 30) #[] #[]] (.tuple #[]) (by kernel_rfl) (by kernel_rfl) rfl (fun w => by kernel_rfl) (fun f w h0 p1 p2 h => by
                  have h := h.1 h0
                  have h2 := h.2
                  rw [EP.out] at h2
                  refine (sym_calls base g cap n hm (a + 2 * q - a + 1) a (a + q) (a + 2 * q) (cur.take a) ((cur.take (a + q)).drop a) ((cur.take (a + 2 * q)).drop (a + q)) (cur.drop (a + 2 * q)) w (by omega) h2 (by rw [← EP.out]; exact HL.out) E1.out.2.1 (by rw [E1.out.2.1, E1.out.2.2]; omega) (by rw [E1.out.2.1, E1.out.2.2, E2.out.2.2]; omega) (by rw [E1.out.2.2]; omega) (by rw [E2.out.2.2]; omega) (HBL.out.part (Nat.le_refl _) (by rw [HL.out]; omega) HD1.out) (HBL.out.part (by omega) (by rw [HL.out]; omega) (fun i h1 h2 => HD2.out i h1 (by omega)))).mono ?_
                  rintro e w' ⟨rfl, C, hC, h'⟩
                  exact ⟨rfl, fun e => by simp [RS.upd] at e, fun _ => ⟨C, hC, h.1.trans h'.1, h'.2⟩⟩), trivial⟩
              rintro f w2 hf hs
              obtain ⟨C, hC, hs⟩ := hs.2 (hf 7)
              have HC := Aside0.mk hC
              have H2 := Aside0.mk hs
              clear hf hs hC
              (try simp only [RS.sets, List.setIfInBounds_toArray, List.set_cons_zero, List.set_cons_succ])
              have hb1 := HBL.out
              have hf1 := (HC.out.fk).mid (cur.take a) (cur.drop (a + 2 * q))
              rw [List.append_assoc, List.append_assoc, List.append_assoc, ← EP.out] at hf1
              rw [EP.out, ← List.append_assoc ((cur.take (a + q)).drop a)] at hb1
              have hb2 := hb1.next HC.out E1.out.2.1 (b := a + 2 * q) (by rw [List.length_append, E1.out.2.1, E1.out.2.2, E2.out.2.2]; omega) (fun i j h1 h2 h3 => HD3.out i j h1 h2)
              have hl2 : (cur.take a ++ (C ++ cur.drop (a + 2 * q))).length = n := by rw [hf1.length]; exact HL.out
              have HB2 := Aside0.mk hb2
              have HF2 := Aside0.mk (HF.out.trans hf1)
              have HL2 := Aside0.mk hl2
              clear hb1 hf1 hb2 hl2
              go_upto_region 11 with (fail)
              refine RS.wp_textE [(44, .int .i64 ((a + 2 * q : Nat) : Int)), (7, .int .i64 ((a + 2 * q : Nat) : Int))] (fun f w => w2 = w) (by kernel_rfl) (by kernel_rfl) (fun f hf => ?_) ?_ ?_
              · rfl
              · exact ⟨RS.StepE.pure 44 (by kernel_rfl) rfl (fun w => by kernel_rfl) (fun f w h => h),
                  RS.StepE.pure 7 (by kernel_rfl) rfl (fun w => by kernel_rfl) (fun f w h => h), trivial⟩
              rintro f wx hf rfl
              clear hf
              (try simp only [RS.sets, List.setIfInBounds_toArray, List.set_cons_zero, List.set_cons_succ])
              go_upto_region 12 with (fail)
              refine wp_region_lit ?_
              refine RS.seq1 (by kernel_rfl) (.int .i64 ((a + 2 * q : Nat) : Int)) (by kernel_rfl) ?_
              refine RS.seq1 (by kernel_rfl) (.int .i64 ((q : Nat) : Int)) (by kernel_rfl) ?_
              refine RS.seq1 (by kernel_rfl) (.int .i64 ((2 * q : Nat) : Int)) (n_mul (by omega) rfl (by kernel_rfl) (by kernel_rfl)) ?_
              refine RS.seq1 (by kernel_rfl) (.int .i64 ((a + 2 * q + 2 * q : Nat) : Int)) (n_add (by omega) rfl (by kernel_rfl) (by kernel_rfl)) ?_
              refine RS.seq1 (by kernel_rfl) (.int .i64 ((a + 2 * q + 2 * q : Nat) : Int)) (by kernel_rfl) ?_
              (try simp only [Act.put, List.setIfInBounds_toArray, List.set_cons_zero, List.set_cons_succ])
              go_wp2_with fail
              exact ⟨⟨a + 2 * q, k + 1, rfl, rfl, by rw [HAK.out, Nat.mul_add, Nat.mul_one], by omega, _, HF2.out, HB2.out, HL2.out, H2.out⟩, by simp [intOf]; omega⟩
            · go_upto_region 9 with (fail)
              refine RS.wp_textE [(33, .int .i64 ((a + 2 * q : Nat) : Int)), (34, .int .i64 ((n : Nat) : Int)), (35, .bool false)] (fun f w => wr = w) (by kernel_rfl) (by kernel_rfl) (fun f hf => ?_) ?_ ?_
              · rfl
              · exact ⟨RS.StepE.pure 33 (by kernel_rfl) rfl (fun w => by kernel_rfl) (fun f w h => h),
                  RS.StepE.pure 34 (by kernel_rfl) rfl (fun w => by kernel_rfl) (fun f w h => h),
                  RS.StepE.load 35 (.bool false) (by kernel_rfl) (by kernel_rfl) rfl (fun f w h => h) (fun f w p1 p2 h => n_leq (a := a + 2 * q) (b := n) (r := false) (decide_eq_false (show ¬ (a + 2 * q ≤ n) from by omega)) rfl (by kernel_rfl) (by kernel_rfl)), trivial⟩
              rintro f wx hf rfl
              clear hf
              (try simp only [RS.sets, List.setIfInBounds_toArray, List.set_cons_zero, List.set_cons_succ])
              go_upto_region 13 with (fail)
              refine RS.wp_textE [(49, .int .i64 ((a : Nat) : Int)), (50, .int .i64 ((q : Nat) : Int)), (51, .int .i64 ((a + q : Nat) : Int)), (9, .int .i64 ((a + q : Nat) : Int))] (fun f w => wr = w) (by kernel_rfl) (by kernel_rfl) (fun f hf => ?_) ?_ ?_
              · rfl
              · exact ⟨RS.StepE.pure 49 (by kernel_rfl) rfl (fun w => by kernel_rfl) (fun f w h => h),
                  RS.StepE.pure 50 (by kernel_rfl) rfl (fun w => by kernel_rfl) (fun f w h => h),
                  RS.StepE.load 51 (.int .i64 ((a + q : Nat) : Int)) (by kernel_rfl) (by kernel_rfl) rfl (fun f w h => h) (fun f w p1 p2 h => n_add (by omega) rfl (by kernel_rfl) (by kernel_rfl)),
                  RS.StepE.pure 9 (by kernel_rfl) rfl (fun w => by kernel_rfl) (fun f w h => h), trivial⟩
              rintro f wx hf rfl
              clear hf
              (try simp only [RS.sets, List.setIfInBounds_toArray, List.set_cons_zero, List.set_cons_succ])
              by_cases hl4 : a + q < n
              · have E1 := Aside0.mk (parts3 cur (show a ≤ a + q by omega) (by rw [HL.out]; omega))
                have E2 := Aside0.mk (parts3 cur (show a + q ≤ n by omega) (by rw [HL.out]; omega))
                go_upto_region 14 with (fail)
                refine RS.wp_textE [(52, .int .i64 ((a + q : Nat) : Int)), (53, .int .i64 ((n : Nat) : Int)), (54, .bool true)] (fun f w => wr = w) (by kernel_rfl) (by kernel_rfl) (fun f hf => ?_) ?_ ?_
                · rfl
                · exact ⟨RS.StepE.pure 52 (by kernel_rfl) rfl (fun w => by kernel_rfl) (fun f w h => h),
                    RS.StepE.pure 53 (by kernel_rfl) rfl (fun w => by kernel_rfl) (fun f w h => h),
                    RS.StepE.load 54 (.bool true) (by kernel_rfl) (by kernel_rfl) rfl (fun f w h => h) (fun f w p1 p2 h => n_lss (a := a + q) (b := n) (r := true) (decide_eq_true (show a + q < n from by omega)) rfl (by kernel_rfl) (by kernel_rfl)), trivial⟩
                rintro f wx hf rfl
                clear hf
                (try simp only [RS.sets, List.setIfInBounds_toArray, List.set_cons_zero, List.set_cons_succ])
                have EP := Aside0.mk (show cur = cur.take a ++ ((cur.take (a + q)).drop a ++ ((cur.take (n)).drop (a + q) ++ cur.drop (n))) by
                    have h1 := E1.out.1
                    have h2 := E2.out.1
                    have h3 : cur.take (a + q) = cur.take a ++ (cur.take (a + q)).drop a := by
                      have := List.take_append_drop a (cur.take (a + q))
                      rw [List.take_take, Nat.min_eq_left (by omega)] at this
                      exact this.symm
                    rw [h3, List.append_assoc] at h2
                    exact h2)
                go_upto_region 15 with (fail)
                refine RS.wp_textE [(55, .slice (some ⟨g, 0, none⟩) n cap), (56, .int .i64 ((a : Nat) : Int)), (57, .int .i64 ((a + q : Nat) : Int)), (58, .int .i64 ((n : Nat) : Int)), (59, .func (.func 30) #[] #[]), (60, .tuple #[])] (fun f w => (f 5 = false → SW w0 base g cap cur w) ∧ (f 5 = true → ∃ C, SS ((cur.take (a + q)).drop a ++ (cur.take (n)).drop (a + q)) C ∧ SW w0 base g cap (cur.take a ++ (C ++ cur.drop (n))) w)) (by kernel_rfl) (by kernel_rfl) (fun f hf => ?_) ?_ ?_
                · exact ⟨fun _ => HS.out, fun e => by rw [hf 5 (by decide)] at e; cases e⟩
                · exact ⟨RS.StepE.pure 55 (by kernel_rfl) rfl (fun w => by kernel_rfl) (fun f w h => h),
                    RS.StepE.pure 56 (by kernel_rfl) rfl (fun w => by kernel_rfl) (fun f w h => h),
                    RS.StepE.pure 57 (by kernel_rfl) rfl (fun w => by kernel_rfl) (fun f w h => h),
                    RS.StepE.pure 58 (by kernel_rfl) rfl (fun w => by kernel_rfl) (fun f w h => h),
                    RS.StepE.pure 59 (by kernel_rfl) rfl (fun w => by kernel_rfl) (fun f w h => h),
                    RS.StepE.call 60 43 #[.slice (some ⟨g, 0, none⟩) n cap, .int .i64 ((a : Nat) : Int), .int .i64 ((a + q : Nat) : Int), .int .i64 ((n : Nat) : Int), .func (.func 30) #[] #[]] (.tuple #[]) (by kernel_rfl) (by kernel_rfl) rfl (fun w => by kernel_rfl) (fun f w h0 p1 p2 h => by
                    have h := h.1 h0
                    have h2 := h.2
                    rw [EP.out] at h2
                    refine (sym_calls base g cap n hm (n - a + 1) a (a + q) (n) (cur.take a) ((cur.take (a + q)).drop a) ((cur.take (n)).drop (a + q)) (cur.drop (n)) w (by omega) h2 (by rw [← EP.out]; exact HL.out) E1.out.2.1 (by rw [E1.out.2.1, E1.out.2.2]; omega) (by rw [E1.out.2.1, E1.out.2.2, E2.out.2.2]; omega) (by rw [E1.out.2.2]; omega) (by rw [E2.out.2.2]; omega) (HBL.out.part (Nat.le_refl _) (by rw [HL.out]; omega) HD1.out) (HBL.out.part (by omega) (by rw [HL.out]; omega) (fun i h1 h2 => HD2.out i h1 (by omega)))).mono ?_
                    rintro e w' ⟨rfl, C, hC, h'⟩
                    exact ⟨rfl, fun e => by simp [RS.upd] at e, fun _ => ⟨C, hC, h.1.trans h'.1, h'.2⟩⟩), trivial⟩
                rintro f w2 hf hs
                obtain ⟨C, hC, hs⟩ := hs.2 (hf 5)
                have HC := Aside0.mk hC
                have H2 := Aside0.mk hs
                clear hf hs hC
                (try simp only [RS.sets, List.setIfInBounds_toArray, List.set_cons_zero, List.set_cons_succ])
                have hb1 := HBL.out
                have hf1 := (HC.out.fk).mid (cur.take a) (cur.drop (n))
                rw [List.append_assoc, List.append_assoc, List.append_assoc, ← EP.out] at hf1
                rw [EP.out, ← List.append_assoc ((cur.take (a + q)).drop a)] at hb1
                have hb2 := hb1.next HC.out E1.out.2.1 (b := n) (by rw [List.length_append, E1.out.2.1, E1.out.2.2, E2.out.2.2]; omega) (fun i j h1 h2 h3 => HD3.out i j h1 h2)
                have hl2 : (cur.take a ++ (C ++ cur.drop (n))).length = n := by rw [hf1.length]; exact HL.out
                have HB2 := Aside0.mk hb2
                have HF2 := Aside0.mk (HF.out.trans hf1)
                have HL2 := Aside0.mk hl2
                clear hb1 hf1 hb2 hl2
                go_upto_region 16 with (fail)
                refine wp_region_lit ?_
                refine RS.seq1 (by kernel_rfl) (.int .i64 ((q : Nat) : Int)) (by kernel_rfl) ?_
                refine RS.seq1 (by kernel_rfl) (.int .i64 ((q * 2 : Nat) : Int)) (n_mul (by omega) rfl (by kernel_rfl) (by kernel_rfl)) ?_
                refine RS.seq1 (by kernel_rfl) (.int .i64 ((q * 2 : Nat) : Int)) (by kernel_rfl) ?_
                (try simp only [Act.put, List.setIfInBounds_toArray, List.set_cons_zero, List.set_cons_succ])
                go_wp2_with fail
                exact ⟨⟨q * 2, q, rfl, by omega, by omega, _, HF2.out, (by have := HB2.out; rw [Nat.mul_comm] at this; exact this), HL2.out, H2.out⟩, by simp [intOf]; omega⟩
              · go_upto_region 14 with (fail)
                refine RS.wp_textE [(52, .int .i64 ((a + q : Nat) : Int)), (53, .int .i64 ((n : Nat) : Int)), (54, .bool false)] (fun f w => wr = w) (by kernel_rfl) (by kernel_rfl) (fun f hf => ?_) ?_ ?_
                · rfl
                · exact ⟨RS.StepE.pure 52 (by kernel_rfl) rfl (fun w => by kernel_rfl) (fun f w h => h),
                    RS.StepE.pure 53 (by kernel_rfl) rfl (fun w => by kernel_rfl) (fun f w h => h),
                    RS.StepE.load 54 (.bool false) (by kernel_rfl) (by kernel_rfl) rfl (fun f w h => h) (fun f w p1 p2 h => n_lss (a := a + q) (b := n) (r := false) (decide_eq_false (show ¬ (a + q < n) from by omega)) rfl (by kernel_rfl) (by kernel_rfl)), trivial⟩
                rintro f wx hf rfl
                clear hf
                (try simp only [RS.sets, List.setIfInBounds_toArray, List.set_cons_zero, List.set_cons_succ])
                go_upto_region 16 with (fail)
                refine wp_region_lit ?_
                refine RS.seq1 (by kernel_rfl) (.int .i64 ((q : Nat) : Int)) (by kernel_rfl) ?_
                refine RS.seq1 (by kernel_rfl) (.int .i64 ((q * 2 : Nat) : Int)) (n_mul (by omega) rfl (by kernel_rfl) (by kernel_rfl)) ?_
                refine RS.seq1 (by kernel_rfl) (.int .i64 ((q * 2 : Nat) : Int)) (by kernel_rfl) ?_
                (try simp only [Act.put, List.setIfInBounds_toArray, List.set_cons_zero, List.set_cons_succ])
                go_wp2_with fail
                exact ⟨⟨q * 2, q, rfl, by omega, by omega, cur, HF.out, (by have := HBL.out.tail (fun i h1 h2 => HD1.out i h1 (by rw [HL.out] at h2; omega)) (fun i j h1 h2 _ => HD3.out i j h1 h2); rw [HL.out, Nat.mul_comm] at this; exact this), HL.out, HS.out⟩, by simp [intOf]; omega⟩
        · go_upto_region 7 with (fail)
          refine RS.wp_textE [(28, .int .i64 ((q : Nat) : Int)), (29, .int .i64 ((n : Nat) : Int)), (30, .bool false)] (fun f w => wr = w) (by kernel_rfl) (by kernel_rfl) (fun f hf => ?_) ?_ ?_
          · rfl
          · exact ⟨RS.StepE.pure 28 (by kernel_rfl) rfl (fun w => by kernel_rfl) (fun f w h => h),
              RS.StepE.pure 29 (by kernel_rfl) rfl (fun w => by kernel_rfl) (fun f w h => h),
              RS.StepE.load 30 (.bool false) (by kernel_rfl) (by kernel_rfl) rfl (fun f w h => h) (fun f w p1 p2 h => n_lss (a := q) (b := n) (r := false) (decide_eq_false (show ¬ (q < n) from by omega)) rfl (by kernel_rfl) (by kernel_rfl)), trivial⟩
          rintro f wx hf rfl
          clear hf
          (try simp only [RS.sets, List.setIfInBounds_toArray, List.set_cons_zero, List.set_cons_succ])
          go_wp2_with fail
          first | go_end0 | (refine bodyPost_ret (results_none rfl _ _ _) rfl ?_)
          exact ⟨rfl, c3, ⟨HB3.out.all (by rw [HL3.out]; omega) (by rw [HL3.out]; exact Nat.le_refl _), HF3.out⟩, HS3.out⟩
set_option maxHeartbeats 8000000 in
set_option maxRecDepth 100000 in
theorem sort_calls (base g cap n : Nat) (xs : List S38) (w0 : World) (h : SB base g cap xs w0) (hn : xs.length = n) (hm : n ≤ 1000000) :
    Calls Try.prog 29 #[.slice (some ⟨g, 0, none⟩) n cap, .func (.func 30) #[] #[]] w0 fun e w' => e = .returned (.tuple #[]) ∧ ∃ ys, SS xs ys ∧ SW w0 base g cap ys w' := by
  have H := Aside0.mk h
  have HN := Aside0.mk hn
  clear h hn
  go_enter Try.func29, Try.ntmps29
  go_upto_region 0 with (fail)
  refine RS.wp_textE [(4, .slice (some ⟨g, 0, none⟩) n cap), (5, .slice (some ⟨g, 0, none⟩) n cap), (6, .int .i64 ((n : Nat) : Int)), (7, .func (.func 30) #[] #[]), (8, .tuple #[])] (fun f w => (f 4 = false → SW w0 base g cap xs w) ∧ (f 4 = true → ∃ C, SS xs C ∧ SW w0 base g cap C w)) (by kernel_rfl) (by kernel_rfl) (fun f hf => ?_) ?_ ?_
  · exact ⟨fun _ => SW.start H.out, fun e => by rw [hf 4 (by decide)] at e; cases e⟩
  · exact ⟨RS.StepE.pure 4 (by kernel_rfl) rfl (fun w => by kernel_rfl) (fun f w h => h),
      RS.StepE.pure 5 (by kernel_rfl) rfl (fun w => by kernel_rfl) (fun f w h => h),
      RS.StepE.pure 6 (by kernel_rfl) rfl (fun w => by kernel_rfl) (fun f w h => h),
      RS.StepE.pure 7 (by kernel_rfl) rfl (fun w => by kernel_rfl) (fun f w h => h),
      RS.StepE.call 8 38 #[.slice (some ⟨g, 0, none⟩) n cap, .int .i64 (n : Int), .func (.func 30) #[] #[]] (.tuple #[]) (by kernel_rfl) (by kernel_rfl) rfl (fun w => by kernel_rfl) (fun f w h0 p1 p2 h => by
    have h := h.1 h0
    refine (stable_calls base g cap n xs w h.2 HN.out hm).mono ?_
    rintro e w' ⟨rfl, C, hC, h'⟩
    exact ⟨rfl, fun e => by simp [RS.upd] at e, fun _ => ⟨C, hC, h.1.trans h'.1, h'.2⟩⟩), trivial⟩
  rintro f w2 hf hs
  obtain ⟨C, hC, hs⟩ := hs.2 (hf 4)
  clear hf
  (try simp only [RS.sets, List.setIfInBounds_toArray, List.set_cons_zero, List.set_cons_succ])
  go_wp2_with fail
  first | go_end0 | (refine bodyPost_ret (results_none rfl _ _ _) rfl ?_)
  exact ⟨rfl, C, hC, hs⟩
end Go.Proofs.Ytgdhciilobnelaa.B
namespace Go.Proofs.Ytgdhciilobnelaa.B
open Go.RowKit Go.Lib Go.Proofs.YtgdhciilobnelaaW.PrintWords Go.Proofs.YtgdhciilobnelaaW.PrintLast Go.Proofs.YtgdhciilobnelaaW.PrintMore Go.RF
set_option linter.unusedVariables false
set_option linter.unusedSimpArgs false
theorem idx33 {ad : Addr} {n c i : Nat} {w : World} {o : Oper} {ρ : Operand → Value} {x y : Operand} (hi : i < n) (ho : o.op = .indexAddr 33 x y) (hx : ρ x = .slice (some ad) n c) (hy : ρ y = .int .i64 (i : Int)) :
    (execOp ρ o).run Try.prog w = .ok (.value (.pointer (some (ad.add (i * 4))))) w := by
  refine run_indexAddr ho hx hy ?_
  have hin : (0 : Int) ≤ (i : Int) ∧ (i : Int) < (n : Int) := ⟨by omega, by omega⟩
  unfold Instr.indexAt
  simp only [asIntOf, Sem.run_bind, Sem.run_pure, Result.andThen_ok, run_underlying Try.underlying33, hin, and_self, if_true, Int.toNat_natCast, size38]
theorem add_add (ad : Addr) (a b : Nat) : (ad.add a).add b = ad.add (a + b) := by
  unfold Addr.add
  by_cases ha : a = 0 <;> by_cases hb : b = 0 <;> simp [ha, hb, Nat.add_assoc]
theorem load38 {ad : Addr} {C : List S38} {n i : Nat} {w : World} {s : S38} {o : Oper} {ρ : Operand → Value} {x : Operand} (hs : C.getD i z38 = s) (h : Kd.C k38 w (some ad) C.length C) (hn : C.length = n) (hi : i < n) (ho : o.op = .load 38 x) (hx : ρ x = .pointer (some (ad.add (i * 4)))) :
    (execOp ρ o).run Try.prog w = .ok (.value (.agg (encS s))) w := by
  subst hs
  refine run_load ho hx ?_
  have ha : (isAgg 38).run Try.prog w = .ok true w := by unfold isAgg; rw [Sem.run_bind, run_underlying Try.underlying38]; rfl
  obtain ⟨ad', c, e, _, hK, hc0⟩ := Kd.C_get h z38 (i : Int) (by omega) (by omega)
  cases e
  rw [Int.toNat_natCast] at hK hc0
  obtain rfl := k38_open hK
  have hc : (loadCells (ad.add (i * 4)) 4).run Try.prog w = .ok (encS (C.getD i z38)) w := by
    have := run_loadCells_list (P := Try.prog) w (ad.add (i * 4)) (encS (C.getD i z38)).toList (fun j v hv => by
      rw [add_add]
      exact hc0 j v hv)
    exact this
  unfold Instr.loadAt Instr.sureAddr loadVar
  simp only [Sem.run_bind, Sem.run_pure, Result.andThen_ok, ha, size38, hc, if_true]
theorem load_row {P : Program} {o : Oper} {ρ : Operand → Value} {ty t : TypeId} {x : Operand} {w : World} {g : Nat} {cs : Array Value} {fr : Nat × Nat} {d : TypeDesc} (hg : w.heap[g]? = some (.cells cs t fr)) (hu : P.underlying ty = some d) (hd : (match d with | .struct _ | .array _ _ => true | _ => false) = true) (hi : (P.info? ty).map (·.size) = some cs.size)
    (ho : o.op = .load ty x) (hx : ρ x = .pointer (some ⟨g, 0, none⟩)) : (execOp ρ o).run P w = .ok (.value (.agg cs)) w :=
  run_load ho hx (by
    unfold Instr.loadAt Instr.sureAddr
    simp only [Sem.run_bind, Sem.run_pure, Result.andThen_ok, run_loadVar_row w g t ty cs fr d hg hu hd hi])
theorem app38 {w : World} {base : Nat} {v : Value} {xs : List S38} {s : S38} {g1 : Nat} {o : Oper} {ρ : Operand → Value} {x y : Operand} (hown : w.ownsRow base 38 4 v xs.length (fl xs)) (hg : w.heap[g1]? = some (.cells (encS s) 38 (0, 0))) (hbase : base ≤ w.heap.size) (hl : xs.length ≤ 1000000)
    (ho : o.op = .call { callee := .builtin .append, args := #[x, y], argTypes := #[33, 33] }) (hx : ρ x = v) (hy : ρ y = .slice (some ⟨g1, 0, none⟩) 1 1) :
    ∃ v' w', (execOp ρ o).run Try.prog w = .ok (.value v') w' ∧ w'.ownsRow base 38 4 v' (xs ++ [s]).length (fl (xs ++ [s])) ∧ w.grownBy w' v.ownBlock ∧ (v'.ownBlock = v.ownBlock ∨ v'.ownBlock = some w.heap.size) := by
  obtain ⟨i0, hi, hzz⟩ := Option.map_eq_some_iff.1 info38
  simp only [Prod.mk.injEq] at hzz
  obtain ⟨hz0, hz1, hz2⟩ := hzz
  have hf : fl (xs ++ [s]) = fl xs ++ (encS s).toList := by rw [fl_append, fl_cons]; simp [fl]
  obtain ⟨v', w', hr, h2, h3, -, h5⟩ := run_append_own_at (P := Try.prog) w base 33 o.type 38 i0 _ 4 40 Try.underlying33 hi hz0 hz1 hz2 rfl (by decide) v xs.length (fl xs) hown ⟨g1, 0, none⟩ 1 1 (encS s).toList rfl
    (fun j u hu => by rw [addz, bC_ hg]; simpa using hu) (by intro u hu; simp [encS] at hu; rcases hu with rfl | rfl | rfl | rfl <;> rfl) (by unfold maxLen; omega) (by omega) hbase
  refine ⟨v', w', ?_, by rw [List.length_append, hf]; exact h2, h3, h5⟩
  unfold execOp
  simp only [ho, resolve, invoke, builtin, Sem.run_bind, Sem.run_pure, Result.andThen_ok, List.map_toArray, List.map_cons, List.map_nil, hx, hy, hr]
theorem app38_seq {ops : Array Oper} {Q : Exit → Act → World → Prop} {rest : List Oper} {o : Oper} {a : Act} {w : World} {base : Nat} {v : Value} {xs : List S38} {s : S38} {g1 : Nat} {x y : Operand} (hw : Region.wanted o (yielded ops a.tmps) = true) (hown : w.ownsRow base 38 4 v xs.length (fl xs)) (hg : w.heap[g1]? = some (.cells (encS s) 38 (0, 0))) (hbase : base ≤ w.heap.size) (hl : xs.length ≤ 1000000)
    (ho : o.op = .call { callee := .builtin .append, args := #[x, y], argTypes := #[33, 33] }) (hx : a.eval x = v) (hy : a.eval y = .slice (some ⟨g1, 0, none⟩) 1 1)
    (k : ∀ v' w', w'.ownsRow base 38 4 v' (xs ++ [s]).length (fl (xs ++ [s])) → w.grownBy w' v.ownBlock → (v'.ownBlock = v.ownBlock ∨ v'.ownBlock = some w.heap.size) → wpList Try.prog ops Q rest (a.put o.dst v') w') : wpList Try.prog ops Q (o :: rest) a w := by
  obtain ⟨v', w', hr, h1, h2, h3⟩ := app38 hown hg hbase hl ho hx hy
  exact RS.seqE hw hr (k v' w' h1 h2 h3)
def funs (C : List S38) : List S38 := C.filter (·.f3)
end Go.Proofs.Ytgdhciilobnelaa.B
namespace Go.Proofs.Ytgdhciilobnelaa.B
open Go.RowKit Go.Proofs.YtgdhciilobnelaaW.PrintWords Go.Proofs.YtgdhciilobnelaaW.PrintLast Go.Proofs.YtgdhciilobnelaaW.PrintMore Go.RF Go.Deep Go.ChangeShapes Go.WideShapes Go.ChangeAt
set_option linter.unusedVariables false
section
variable {H : Type} {enc : TypeId × Value → H} {P : Program} {w : World} {base : Nat} {spare : Nat → Bool} {held : Bool}
theorem open_kint {t : TypeId} {k : IntKind} {fuel : Nat} {cs : List Value} {x : DataW H × List MemPlace} (he : P.underlying t = some (.int k)) (h : DataW.trod enc P w base spare held fuel t cs = some x) : ∃ y, (Kd.int k).K w y cs ∧ (Lit.int k y).wf = true := by
  obtain ⟨n, rfl, _, hw⟩ := DataW.trod_int he h
  exact ⟨n, rfl, hw⟩
theorem open_kslice {α : Type} [Inhabited α] (d : Kd α) (good : α → Prop) {t e : TypeId} {fuel : Nat} {cs : List Value} {x : DataW H × List MemPlace} (ht : P.underlying t = some (.slice e)) (hc : P.cellsOf e = d.sz)
    (hel : ∀ fuel cs x, DataW.trod enc P w base spare held fuel e cs = some x → ∃ y, d.K w y cs ∧ good y) (h : DataW.trod enc P w base spare held fuel t cs = some x) :
    ∃ (A : Option Addr) (c : Nat) (xs : List α), cs = [.slice A xs.length c] ∧ xs.length ≤ c ∧ d.C w A xs.length xs ∧ ∀ y ∈ xs, good y := by
  rcases open_slice ht h with ⟨rfl, _⟩ | ⟨a, len, cap, m, n, D, Pl, rfl, hb, hl, hm, hmm, rfl, hx⟩
  · exact ⟨none, 0, [], rfl, Nat.le_refl _, ⟨rfl, by simp, fun h => by simp at h⟩, fun y hy => by simp at hy⟩
  have hlm : len ≤ m := by rw [hmm]; split <;> omega
  obtain ⟨q, hq⟩ := choose_lt (α := α × List Value) (n := len) (p := fun i y => w.cells? base (a.add (i * P.cellsOf e)) (P.cellsOf e) = some y.2 ∧ d.K w y.1 y.2 ∧ good y.1) (fun i hi => by
    obtain ⟨cs', h1, h2⟩ := hx i (by omega)
    obtain ⟨y, h3, h4⟩ := hel _ _ _ h2
    exact ⟨(y, cs'), h1, h3, h4⟩)
  have hlen : ((List.range len).map fun i => (q i).1).length = len := by simp
  refine ⟨some a, cap, (List.range len).map fun i => (q i).1, by rw [hlen], by rw [hlen]; exact hl, ⟨rfl, by rw [hlen]; unfold maxLen at hm; omega, fun _ => ⟨a, rfl, fun j p hj => ?_⟩⟩, fun y hy => ?_⟩
  · obtain ⟨hjl, rfl⟩ := List.getElem?_eq_some_iff.1 hj
    rw [hlen] at hjl
    obtain ⟨h1, h2, h3⟩ := hq j hjl
    obtain ⟨_, hcl, hcell⟩ := World.cells?_some h1
    refine ⟨(q j).2, by rw [hcl, hc], by simpa using h2, fun i u hu => ?_⟩
    have hi := (List.getElem?_eq_some_iff.1 hu).1
    have e1 := hcell i (by omega)
    rw [Go.Deep.add_add, hc, hu] at e1
    exact e1
  · obtain ⟨i, hi, rfl⟩ := List.mem_map.1 hy
    exact (hq i (List.mem_range.1 hi)).2.2
end
instance : Inhabited S41 := ⟨z41⟩
instance : Inhabited S38 := ⟨z38⟩
instance : Inhabited S45 := ⟨z45⟩
theorem wf_rg {x : Int} (h : (Lit.int .u64 x).wf = true) : Rg x := by
  have h : IntKind.u64.min ≤ x ∧ x ≤ IntKind.u64.max := by simpa [Lit.wf] using h
  have e0 : IntKind.u64.min = 0 := by decide
  have e1 : IntKind.u64.max = 18446744073709551615 := by decide
  unfold Rg
  omega
def Good38 (x : S38) : Prop := Rg x.f1 ∧ Rg x.f2
section
variable {H : Type} {enc : TypeId × Value → H} {w : World} {base : Nat} {spare : Nat → Bool} {held : Bool}
theorem open_k38 {fuel : Nat} {cs : List Value} {x : DataW H × List MemPlace} (h : DataW.trod enc Try.prog w base spare held fuel 38 cs = some x) : ∃ y, k38.K w y cs ∧ Good38 y := by
  obtain ⟨xs, n, rfl, _, hcl, hxl, hf⟩ := DataW.trod_struct Try.underlying38 h
  have hcl' : cs.length = 4 := hcl
  have hxl' : xs.length = 4 := hxl
  match cs, hcl', xs, hxl' with
  | [v0, v1, v2, v3], _, [y0, y1, y2, y3], _ =>
    have g0 : DataW.trod enc Try.prog w base spare held n 9 [v0] = some y0 := hf 0 _ rfl
    obtain ⟨a0, h0, -, -⟩ := DataW.trod_string Try.underlying9 g0
    have e0 : v0 = .string a0 := by injection h0
    have g1 : DataW.trod enc Try.prog w base spare held n 26 [v1] = some y1 := hf 1 _ rfl
    obtain ⟨a1, h1, w1⟩ := open_kint Try.underlying26 g1
    have e1 : v1 = .int .u64 a1 := by injection h1
    have g2 : DataW.trod enc Try.prog w base spare held n 26 [v2] = some y2 := hf 2 _ rfl
    obtain ⟨a2, h2, w2⟩ := open_kint Try.underlying26 g2
    have e2 : v2 = .int .u64 a2 := by injection h2
    have g3 : DataW.trod enc Try.prog w base spare held n 4 [v3] = some y3 := hf 3 _ rfl
    obtain ⟨a3, h3, -⟩ := DataW.trod_bool Try.underlying4 g3
    have e3 : v3 = .bool a3 := by injection h3
    subst e0; subst e1; subst e2; subst e3
    exact ⟨⟨a0, a1, a2, a3⟩, k38_mk w ⟨a0, a1, a2, a3⟩, wf_rg w1, wf_rg w2⟩
theorem open_syms {v : Value} {d : DataW H} {ps : List MemPlace} (hv : ∃ a n c, v = .slice a n c) (h : DataW.Trod enc Try.prog w base spare held 33 v d ps) :
    ∃ (A : Option Addr) (c : Nat) (l : List _), v = .slice A l.length c ∧ l.length ≤ c ∧ Kd.C k38 w A l.length l ∧ ∀ y ∈ l, Good38 y := by
  obtain ⟨a, n, c, rfl⟩ := hv
  obtain ⟨fuel, hf⟩ := h
  obtain ⟨A, c', l, hcs, hl, hC, hg⟩ := open_kslice k38 (fun y => Good38 y) Try.underlying33 (by kernel_rfl) (fun _ _ _ h => open_k38 h) hf
  have e : Value.slice a n c = .slice A l.length c' := by
    simp [Value.cells] at hcs
    obtain ⟨rfl, rfl, rfl⟩ := hcs
    rfl
  exact ⟨A, c', l, e, hl, hC, hg⟩
end
end Go.Proofs.Ytgdhciilobnelaa.B
