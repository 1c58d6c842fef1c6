/- What 'great' tells. NamesErrors walked. Rows of bytes of one's own, made longer. -/
import Derived.Test.YtgdhciilobnelaaZb5
import Derived.Test.YtgdhciilobnelaaZb15
namespace Go.Proofs.Ytgdhciilobnelaa.B
open Go.RowKit Go.Proofs.YtgdhciilobnelaaW.PrintWords Go.Proofs.YtgdhciilobnelaaW.PrintLast Go.Proofs.YtgdhciilobnelaaW.PrintMore
attribute [local go_sem] max2_int min2_int max_two min_two max_three min_three max_four min_four   -- for this text's walks alone
set_option linter.unusedVariables false
set_option linter.unusedSimpArgs false
attribute [local go_sem high] eqA38
mutual
def sundiallaw04_great.l0 : Nat → List (S41) → Int → Option (Bool)
  | 0, _, _ => none
  | k + 1, x0, x3 => if x3 < (x0.length : Int) then (sundiallaw04_great.j1 k x0 x3 (decide (x3 ≤ 60))) else (sundiallaw04_great.j1 k x0 x3 false)
def sundiallaw04_great.j1 : Nat → List (S41) → Int → Bool → Option (Bool)
  | 0, _, _, _ => none
  | k + 1, x0, x3, x12 => if x12 = true then (if 0 ≤ x3 then (if x3 < (x0.length : Int) then (if (((rd_T41 x0 x3).f0).size : Int) > 60 then (some true) else (sundiallaw04_great.l1 k x0 x3 0)) else (none)) else (none)) else (some (decide ((x0.length : Int) > 60)))
def sundiallaw04_great.l1 : Nat → List (S41) → Int → Int → Option (Bool)
  | 0, _, _, _ => none
  | k + 1, x0, x3, x4 => if 0 ≤ x3 then (if x3 < (x0.length : Int) then (if x4 < (((rd_T41 x0 x3).f0).size : Int) then (if 0 ≤ x4 then (if (bt ((rd_T41 x0 x3).f0) x4) = 0 then (some true) else (sundiallaw04_great.l1 k x0 x3 (wrap64 (x4 + 1)))) else (none)) else (sundiallaw04_great.l0 k x0 (wrap64 (x3 + 1)))) else (none)) else (none)
end
def sundiallaw04_great.f (k : Nat) (l0 : List (S41)) : Option (Bool) := sundiallaw04_great.l0 k l0 0
set_option maxHeartbeats 8000000 in
set_option maxRecDepth 100000 in
theorem sundiallaw04_great.calls (k : Nat) (A0 : Option Addr) (c0 : Nat) (l0 : List (S41)) (r : Bool) (w : World) (hr0 : Kd.C k41 w A0 l0.length l0) (hc0 : l0.length ≤ c0) (h : sundiallaw04_great.f k l0 = some r) :
    Calls Try.prog 7 #[.slice A0 l0.length c0] w fun e w' => e = .returned (.bool r) ∧ Drawn0 w w' := by
  have HR0 := Aside0.mk hr0
  have HC0 := Aside0.mk hc0
  clear hr0 hc0
  have H : (sundiallaw04_great.l0 k l0 0) = some r := h
  clear h
  have H' := Aside0.mk H
  clear H
  go_enter Try.func7, Try.ntmps7
  go_wp2
  go_loopg [3] k (fun kq v3 w' => ∃ (x3_1 : Int), v3 = .int .i64 x3_1 ∧ Aside0 (sundiallaw04_great.l0 kq l0 x3_1 = some r) ∧ Aside0 (kq ≤ k) ∧ Drawn0 w w')
  case atStart => exact ⟨(0), (by first | rfl | (simp; done) | (simp [*]; done)), H', ⟨Nat.le_refl _⟩, by repeat (first | exact Drawn0.refl _ | apply Drawn0.step)⟩
  case round =>
    clear H'
    obtain ⟨x3_1, rfl, HA, HK1, ⟨m1, rfl⟩⟩ := hrel
    cases gk with
    | zero => exact absurd HA.out (by simp [sundiallaw04_great.l0])
    | succ k1 =>
      have H := HA.out
      clear HA
      simp only [sundiallaw04_great.l0] at H
      have HC2 := Aside0.mk H
      clear H
      go_upto_region 2 with (fail)
      go_cut [12] (fun v12 wc => ∃ (kq : Nat) (x12_1 : Bool), v12 = .bool x12_1 ∧ Aside0 (sundiallaw04_great.j1 kq l0 x3_1 x12_1 = some r) ∧ Aside0 (kq ≤ k1) ∧ Drawn0 w wc)
      case first =>
        have H := HC2.out
        clear HC2
        by_cases c3 : x3_1 < (l0.length : Int)
        · rw [if_pos c3] at H
          have c3b0 : decide (x3_1 < (l0.length : Int)) = true := decide_eq_true c3
          clear c3
          (first | rw [c3b0] | (simp only [i64_w, i32_w]; rw [c3b0]) | skip)
          have H' := Aside0.mk H
          clear H
          go_wp2
          go_meet
          case rel => exact ⟨_, (decide (x3_1 ≤ 60)), (by first | rfl | (simp; done) | (simp [*]; done)), H', ⟨by have := HK1.out; first | omega | exact Nat.le_refl _⟩, by repeat (first | exact Drawn0.refl _ | apply Drawn0.step)⟩
        · rw [if_neg c3] at H
          have c3b0 : decide (x3_1 < (l0.length : Int)) = false := decide_eq_false c3
          clear c3
          (first | rw [c3b0] | (simp only [i64_w, i32_w]; rw [c3b0]) | skip)
          have H' := Aside0.mk H
          clear H
          go_wp2
          go_meet
          case rel => exact ⟨_, (false), (by first | rfl | (simp; done) | (simp [*]; done)), H', ⟨by have := HK1.out; first | omega | exact Nat.le_refl _⟩, by repeat (first | exact Drawn0.refl _ | apply Drawn0.step)⟩
      case rest =>
        clear HC2
        (try clear p2); (try clear c3); (try clear c3b0)
        obtain ⟨kq, x12_1, rfl, HA, HJ1, ⟨mc1, rfl⟩⟩ := hcut
        cases kq with
        | zero => exact absurd HA.out (by simp [sundiallaw04_great.j1])
        | succ kj1 =>
          have H := HA.out
          clear HA
          simp only [sundiallaw04_great.j1] at H
          by_cases c4 : x12_1 = true
          · subst c4
            have H1 : (if 0 ≤ x3_1 then (if x3_1 < (l0.length : Int) then (if (((rd_T41 l0 x3_1).f0).size : Int) > 60 then (some true) else (sundiallaw04_great.l1 kj1 l0 x3_1 0)) else (none)) else (none)) = some r := by rw [if_pos rfl] at H; exact H
            clear H
            have H := H1
            clear H1
            by_cases c5 : 0 ≤ x3_1
            · rw [if_pos c5] at H
              have c5b0 : decide (0 ≤ x3_1) = true := decide_eq_true c5
              clear c5
              by_cases c6 : x3_1 < (l0.length : Int)
              · rw [if_pos c6] at H
                have c6b0 : decide (x3_1 < (l0.length : Int)) = true := decide_eq_true c6
                clear c6
                by_cases c7 : (((rd_T41 l0 x3_1).f0).size : Int) > 60
                · rw [if_pos c7] at H
                  have c7b0 : decide (60 < (((rd_T41 l0 x3_1).f0).size : Int)) = true := decide_eq_true c7
                  have c7b1 : decide (60 < ((rd_T41 l0 x3_1).f0).size) = true := decide_eq_true (by omega)
                  clear c7
                  obtain rfl := Option.some.inj H
                  have p141 : 0 ≤ (x3_1 : Int) := of_decide_eq_true (by first | (with_reducible assumption) | assumption)
                  have q141 : x3_1 < (l0.length : Int) := of_decide_eq_true (by first | (with_reducible assumption) | assumption)
                  obtain ⟨ad141, e141, hx141_0, hx141_1, hx141_2, hx141_3, hx141_4⟩ := at_T41 HR0.out x3_1 p141 q141
                  cases e141
                  replace p141 := eq_true p141
                  replace q141 := eq_true q141
                  go_wp2
                  go_ret
                  exact ⟨by first | rfl | (simp; done) | (simp [*]; done), by repeat (first | exact Drawn0.refl _ | apply Drawn0.step)⟩
                · rw [if_neg c7] at H
                  have c7b0 : decide (60 < (((rd_T41 l0 x3_1).f0).size : Int)) = false := decide_eq_false c7
                  have c7b1 : decide (60 < ((rd_T41 l0 x3_1).f0).size) = false := decide_eq_false (by omega)
                  clear c7
                  have H' := Aside0.mk H
                  clear H
                  have p141 : 0 ≤ (x3_1 : Int) := of_decide_eq_true (by first | (with_reducible assumption) | assumption)
                  have q141 : x3_1 < (l0.length : Int) := of_decide_eq_true (by first | (with_reducible assumption) | assumption)
                  obtain ⟨ad141, e141, hx141_0, hx141_1, hx141_2, hx141_3, hx141_4⟩ := at_T41 HR0.out x3_1 p141 q141
                  cases e141
                  replace p141 := eq_true p141
                  replace q141 := eq_true q141
                  go_wp2
                  go_loopg [4] kj1 (fun kq v4 w' => ∃ (x4_3 : Int), v4 = .int .i64 x4_3 ∧ Aside0 (sundiallaw04_great.l1 kq l0 x3_1 x4_3 = some r) ∧ Aside0 (kq ≤ kj1) ∧ Drawn0 w w')
                  case atStart => exact ⟨(0), (by first | rfl | (simp; done) | (simp [*]; done)), H', ⟨Nat.le_refl _⟩, by repeat (first | exact Drawn0.refl _ | apply Drawn0.step)⟩
                  case round =>
                    clear H'
                    (try clear c1); (try clear p1); (try clear q1); (try clear hx1); (try clear p2); (try clear c3); (try clear c3b0); (try clear c4); (try clear c5); (try clear c5b0); (try clear c6); (try clear c6b0); (try clear c7); (try clear c7b0); (try clear c7b1); (try clear hx141_0); (try clear hx141_1); (try clear hx141_2); (try clear hx141_3); (try clear hx141_4); (try clear p141); (try clear p2); (try clear q141)
                    obtain ⟨x4_3, rfl, HA, HK3, ⟨m3, rfl⟩⟩ := hrel
                    cases gk with
                    | zero => exact absurd HA.out (by simp [sundiallaw04_great.l1])
                    | succ k3 =>
                      have H := HA.out
                      clear HA
                      simp only [sundiallaw04_great.l1] at H
                      by_cases c8 : 0 ≤ x3_1
                      · rw [if_pos c8] at H
                        have c8b0 : decide (0 ≤ x3_1) = true := decide_eq_true c8
                        clear c8
                        by_cases c9 : x3_1 < (l0.length : Int)
                        · rw [if_pos c9] at H
                          have c9b0 : decide (x3_1 < (l0.length : Int)) = true := decide_eq_true c9
                          clear c9
                          by_cases c10 : x4_3 < (((rd_T41 l0 x3_1).f0).size : Int)
                          · rw [if_pos c10] at H
                            have c10b0 : decide (x4_3 < (((rd_T41 l0 x3_1).f0).size : Int)) = true := decide_eq_true c10
                            clear c10
                            by_cases c11 : 0 ≤ x4_3
                            · rw [if_pos c11] at H
                              have c11b0 : decide (0 ≤ x4_3) = true := decide_eq_true c11
                              clear c11
                              by_cases c13 : (bt ((rd_T41 l0 x3_1).f0) x4_3) = 0
                              · rw [if_pos c13] at H
                                have c13b0 : ((bt ((rd_T41 l0 x3_1).f0) x4_3) == 0) = true := beq_iff_eq.mpr c13
                                have c13b1 : ((bt ((rd_T41 l0 x3_1).f0) x4_3) != 0) = false := bne_eq_false_iff_eq.mpr c13
                                clear c13
                                obtain rfl := Option.some.inj H
                                have p142 : 0 ≤ (x3_1 : Int) := of_decide_eq_true (by first | (with_reducible assumption) | assumption)
                                have q142 : x3_1 < (l0.length : Int) := of_decide_eq_true (by first | (with_reducible assumption) | assumption)
                                obtain ⟨ad142, e142, hx142_0, hx142_1, hx142_2, hx142_3, hx142_4⟩ := at_T41 HR0.out x3_1 p142 q142
                                obtain rfl : ad141 = ad142 := (by injection e142)
                                replace p142 := eq_true p142
                                replace q142 := eq_true q142
                                have p143 : 0 ≤ (x3_1 : Int) := of_decide_eq_true (by first | (with_reducible assumption) | assumption)
                                have q143 : x3_1 < (l0.length : Int) := of_decide_eq_true (by first | (with_reducible assumption) | assumption)
                                obtain ⟨ad143, e143, hx143_0, hx143_1, hx143_2, hx143_3, hx143_4⟩ := at_T41 HR0.out x3_1 p143 q143
                                obtain rfl : ad141 = ad143 := (by injection e143)
                                replace p143 := eq_true p143
                                replace q143 := eq_true q143
                                have p12 : 0 ≤ (x4_3 : Int) := of_decide_eq_true (by first | (with_reducible assumption) | assumption)
                                have q12 : x4_3 < (((rd_T41 l0 x3_1).f0).size : Int) := of_decide_eq_true (by first | (with_reducible assumption) | assumption)
                                have hx12 := bt_at ((rd_T41 l0 x3_1).f0) x4_3
                                replace p12 := eq_true p12
                                replace q12 := eq_true q12
                                go_wp2
                                go_ret
                                exact ⟨by first | rfl | (simp; done) | (simp [*]; done), by repeat (first | exact Drawn0.refl _ | apply Drawn0.step)⟩
                              · rw [if_neg c13] at H
                                have c13b0 : ((bt ((rd_T41 l0 x3_1).f0) x4_3) == 0) = false := beq_eq_false_iff_ne.mpr c13
                                have c13b1 : ((bt ((rd_T41 l0 x3_1).f0) x4_3) != 0) = true := bne_iff_ne.mpr c13
                                have H' := Aside0.mk H
                                clear H
                                have p142 : 0 ≤ (x3_1 : Int) := of_decide_eq_true (by first | (with_reducible assumption) | assumption)
                                have q142 : x3_1 < (l0.length : Int) := of_decide_eq_true (by first | (with_reducible assumption) | assumption)
                                obtain ⟨ad142, e142, hx142_0, hx142_1, hx142_2, hx142_3, hx142_4⟩ := at_T41 HR0.out x3_1 p142 q142
                                obtain rfl : ad141 = ad142 := (by injection e142)
                                replace p142 := eq_true p142
                                replace q142 := eq_true q142
                                have p143 : 0 ≤ (x3_1 : Int) := of_decide_eq_true (by first | (with_reducible assumption) | assumption)
                                have q143 : x3_1 < (l0.length : Int) := of_decide_eq_true (by first | (with_reducible assumption) | assumption)
                                obtain ⟨ad143, e143, hx143_0, hx143_1, hx143_2, hx143_3, hx143_4⟩ := at_T41 HR0.out x3_1 p143 q143
                                obtain rfl : ad141 = ad143 := (by injection e143)
                                replace p143 := eq_true p143
                                replace q143 := eq_true q143
                                have p12 : 0 ≤ (x4_3 : Int) := of_decide_eq_true (by first | (with_reducible assumption) | assumption)
                                have q12 : x4_3 < (((rd_T41 l0 x3_1).f0).size : Int) := of_decide_eq_true (by first | (with_reducible assumption) | assumption)
                                have hx12 := bt_at ((rd_T41 l0 x3_1).f0) x4_3
                                replace p12 := eq_true p12
                                replace q12 := eq_true q12
                                go_wp2
                                go_roundg k3
                                case measure => have := HK1.out; have := HJ1.out; have := HK3.out; omega
                                case rel => exact ⟨(wrap64 (x4_3 + 1)), (by first | rfl | (simp; done) | (simp [*]; done)), H', ⟨by have := HK1.out; have := HJ1.out; have := HK3.out; omega⟩, by repeat (first | exact Drawn0.refl _ | apply Drawn0.step)⟩
                            · rw [if_neg c11] at H
                              exact absurd H (by simp)
                          · rw [if_neg c10] at H
                            have c10b0 : decide (x4_3 < (((rd_T41 l0 x3_1).f0).size : Int)) = false := decide_eq_false c10
                            clear c10
                            have H' := Aside0.mk H
                            clear H
                            have p142 : 0 ≤ (x3_1 : Int) := of_decide_eq_true (by first | (with_reducible assumption) | assumption)
                            have q142 : x3_1 < (l0.length : Int) := of_decide_eq_true (by first | (with_reducible assumption) | assumption)
                            obtain ⟨ad142, e142, hx142_0, hx142_1, hx142_2, hx142_3, hx142_4⟩ := at_T41 HR0.out x3_1 p142 q142
                            obtain rfl : ad141 = ad142 := (by injection e142)
                            replace p142 := eq_true p142
                            replace q142 := eq_true q142
                            go_wp2
                            go_roundg k3
                            case measure => have := HK1.out; have := HJ1.out; have := HK3.out; omega
                            case rel => exact ⟨(wrap64 (x3_1 + 1)), (by first | rfl | (simp; done) | (simp [*]; done)), H', ⟨by have := HK1.out; have := HJ1.out; have := HK3.out; omega⟩, by repeat (first | exact Drawn0.refl _ | apply Drawn0.step)⟩
                        · rw [if_neg c9] at H
                          exact absurd H (by simp)
                      · rw [if_neg c8] at H
                        exact absurd H (by simp)
              · rw [if_neg c6] at H
                exact absurd H (by simp)
            · rw [if_neg c5] at H
              exact absurd H (by simp)
          · replace c4 := Bool.eq_false_iff.mpr c4
            subst c4
            have H1 : (some (decide ((l0.length : Int) > 60))) = some r := by rw [if_neg (show ¬ (false = true) by decide)] at H; exact H
            clear H
            have H := H1
            clear H1
            obtain rfl := Option.some.inj H
            go_wp2
            go_ret
            exact ⟨by first | rfl | (simp; done) | (simp [*]; done), by repeat (first | exact Drawn0.refl _ | apply Drawn0.step)⟩
end Go.Proofs.Ytgdhciilobnelaa.B
namespace Go.Proofs.Ytgdhciilobnelaa.B
open Go.RowKit Go.Proofs.YtgdhciilobnelaaW.PrintWords Go.Proofs.YtgdhciilobnelaaW.PrintLast Go.Proofs.YtgdhciilobnelaaW.PrintMore
set_option linter.unusedVariables false
set_option linter.unusedSimpArgs false
def GoodE (x : S41) : Prop := x.f0.size ≤ 60 ∧ NoZ x.f0
theorem w1 {i : Nat} (h : i ≤ 100) : wrap64 ((i : Int) + 1) = ((i + 1 : Nat) : Int) := by unfold wrap64; omega
theorem great_in {l : List S41} {i : Nat} (hi : i < l.length) (h60 : (l.getD i z41).f0.size ≤ 60) (hi60 : i ≤ 60)
    (next : ∃ k r, sundiallaw04_great.l0 k l ((i + 1 : Nat) : Int) = some r ∧ (r = false → l.length ≤ 60 ∧ ∀ j, i + 1 ≤ j → j < l.length → GoodE (l.getD j z41))) : ∀ d q, q + d = (l.getD i z41).f0.size →
    ∃ k r, sundiallaw04_great.l1 k l (i : Int) (q : Int) = some r ∧ (r = false → l.length ≤ 60 ∧ (∀ j, i + 1 ≤ j → j < l.length → GoodE (l.getD j z41)) ∧ ∀ p, q ≤ p → p < (l.getD i z41).f0.size → bt (l.getD i z41).f0 (p : Int) ≠ 0)
  | 0, q, hq => by
    obtain ⟨k, r, h1, h2⟩ := next
    refine ⟨k + 1, r, ?_, fun hr => ⟨(h2 hr).1, (h2 hr).2, fun p h3 h4 => by omega⟩⟩
    unfold sundiallaw04_great.l1
    have e : rd_T41 l (i : Int) = l.getD i z41 := rfl
    rw [if_pos (by omega), if_pos (by omega), e, if_neg (by omega), w1 (by omega), h1]
  | d + 1, q, hq => by
    have e : rd_T41 l (i : Int) = l.getD i z41 := rfl
    by_cases hz : bt (l.getD i z41).f0 (q : Int) = 0
    · refine ⟨1, true, ?_, fun hr => by cases hr⟩
      unfold sundiallaw04_great.l1
      rw [if_pos (by omega), if_pos (by omega), e, if_pos (by omega), if_pos (by omega), if_pos hz]
    · obtain ⟨k, r, h1, h2⟩ := great_in hi h60 hi60 next d (q + 1) (by omega)
      refine ⟨k + 1, r, ?_, fun hr => ⟨(h2 hr).1, (h2 hr).2.1, fun p h3 h4 => ?_⟩⟩
      · unfold sundiallaw04_great.l1
        rw [if_pos (by omega), if_pos (by omega), e, if_pos (by omega), if_pos (by omega), if_neg hz, w1 (by omega), h1]
      · by_cases hp : p = q
        · rw [hp]; exact hz
        · exact (h2 hr).2.2 p (by omega) h4
theorem noZ_bt {s : ByteArray} (h : ∀ p : Nat, p < s.size → bt s (p : Int) ≠ 0) : NoZ s := by
  intro b hb
  obtain ⟨i, hi, e⟩ := List.mem_iff_getElem.1 hb
  intro h0
  subst h0
  have := h i (by simpa using hi)
  apply this
  unfold bt
  simp only [Int.toNat_natCast]
  simp at hi
  have e' : s.data[i] = 0 := by simpa using e
  have e2 : s[i] = 0 := e'
  simp [hi, e2]
theorem great_out {l : List S41} : ∀ d i : Nat, i + d = 61 → ∃ k r, sundiallaw04_great.l0 k l (i : Int) = some r ∧ (r = false → l.length ≤ 60 ∧ ∀ j : Nat, i ≤ j → j < l.length → GoodE (l.getD j z41))
  | 0, i, hd => by
    refine ⟨2, decide ((l.length : Int) > 60), ?_, fun hr => ?_⟩
    · unfold sundiallaw04_great.l0
      by_cases hi : (i : Int) < (l.length : Int)
      · rw [if_pos hi, decide_eq_false (by omega)]
        unfold sundiallaw04_great.j1
        rw [if_neg (by decide)]
      · rw [if_neg hi]
        unfold sundiallaw04_great.j1
        rw [if_neg (by decide)]
    · have := of_decide_eq_false hr
      exact ⟨by omega, fun j h1 h2 => by omega⟩
  | d + 1, i, hd => by
    by_cases hi : (i : Int) < (l.length : Int)
    · by_cases hs : (((l.getD i z41).f0).size : Int) > 60
      · refine ⟨2, true, ?_, fun hr => by cases hr⟩
        unfold sundiallaw04_great.l0
        rw [if_pos hi, decide_eq_true (by omega)]
        unfold sundiallaw04_great.j1
        have e : rd_T41 l (i : Int) = l.getD i z41 := rfl
        rw [if_pos rfl, if_pos (by omega), if_pos hi, e, if_pos hs]
      · obtain ⟨k, r, h1, h2⟩ := great_in (l := l) (i := i) (by omega) (by omega) (by omega) (great_out d (i + 1) (by omega)) _ 0 (Nat.zero_add _)
        refine ⟨k + 2, r, ?_, fun hr => ⟨(h2 hr).1, fun j h3 h4 => ?_⟩⟩
        · unfold sundiallaw04_great.l0
          rw [if_pos hi, decide_eq_true (by omega)]
          unfold sundiallaw04_great.j1
          have e : rd_T41 l (i : Int) = l.getD i z41 := rfl
          rw [if_pos rfl, if_pos (by omega), if_pos hi, e, if_neg hs]
          exact h1
        · by_cases hj : j = i
          · subst hj
            exact ⟨by omega, noZ_bt fun p hp => (h2 hr).2.2 p (Nat.zero_le _) hp⟩
          · exact (h2 hr).2.1 j (by omega) h4
    · refine ⟨2, decide ((l.length : Int) > 60), ?_, fun hr => ?_⟩
      · unfold sundiallaw04_great.l0
        rw [if_neg hi]
        unfold sundiallaw04_great.j1
        rw [if_neg (by decide)]
      · have := of_decide_eq_false hr
        exact ⟨by omega, fun j h1 h2 => by omega⟩
theorem great_tells (l : List S41) : ∃ k r, sundiallaw04_great.f k l = some r ∧ (r = false → l.length ≤ 60 ∧ ∀ x ∈ l, GoodE x) := by
  obtain ⟨k, r, h1, h2⟩ := great_out (l := l) 61 0 rfl
  refine ⟨k, r, h1, fun hr => ⟨(h2 hr).1, fun x hx => ?_⟩⟩
  obtain ⟨j, hj, rfl⟩ := List.mem_iff_getElem.1 hx
  have := (h2 hr).2 j (Nat.zero_le _) hj
  rw [List.getD_eq_getElem?_getD, List.getElem?_eq_getElem hj] at this
  exact this
end Go.Proofs.Ytgdhciilobnelaa.B
namespace Go.Proofs.Ytgdhciilobnelaa.B
open Go.RowKit Go.Lib Go.Proofs.YtgdhciilobnelaaW.PrintWords Go.Proofs.YtgdhciilobnelaaW.PrintLast Go.Proofs.YtgdhciilobnelaaW.PrintMore Go.RF
set_option linter.unusedVariables false
set_option linter.unusedSimpArgs false
attribute [local go_sem] max2_int min2_int max_two min_two
end Go.Proofs.Ytgdhciilobnelaa.B
namespace Go.Proofs.Ytgdhciilobnelaa.B
open Go.RowKit Go.Lib Go.Proofs.YtgdhciilobnelaaW.PrintWords Go.Proofs.YtgdhciilobnelaaW.PrintLast Go.Proofs.YtgdhciilobnelaaW.PrintMore Go.RF
set_option linter.unusedVariables false
set_option linter.unusedSimpArgs false
theorem nums_get {k : IntKind} (xs : List Int) (j : Nat) (u : Value) (h : (nums k xs)[j]? = some u) : j < xs.length ∧ u = .int k (xs.getD j 0) := by
  unfold nums at h
  rw [List.getElem?_map] at h
  obtain ⟨x, hx, rfl⟩ := Option.map_eq_some_iff.1 h
  refine ⟨(List.getElem?_eq_some_iff.1 hx).1, ?_⟩
  rw [List.getD_eq_getElem?_getD, hx]
  rfl
theorem run_app8 {w : World} {base : Nat} {v : Value} {xs ys : List Int} {A : Option Addr} {n c : Nat} {o : Oper} {ρ : Operand → Value} {x y : Operand} (hown : w.ownsRow base 5 1 v xs.length (nums .u8 xs)) (hC : Kd.C (Kd.int .u8) w A ys.length ys) (hn : ys.length = n) (hbase : base ≤ w.heap.size) (hl : xs.length + n ≤ 10000000)
    (ho : o.op = .call { callee := .builtin .append, args := #[x, y], argTypes := #[23, 23] }) (hx : ρ x = v) (hy : ρ y = .slice A n c) :
    ∃ v' w', (execOp ρ o).run Try.prog w = .ok (.value v') w' ∧ w'.ownsRow base 5 1 v' (xs ++ ys).length (nums .u8 (xs ++ ys)) ∧ w.grownBy w' v.ownBlock ∧ (v'.ownBlock = v.ownBlock ∨ v'.ownBlock = some w.heap.size) := by
  subst hn
  obtain ⟨i0, hi, hzz⟩ := Option.map_eq_some_iff.1 info5
  simp only [Prod.mk.injEq] at hzz
  obtain ⟨hz0, hz1, hz2⟩ := hzz
  have hrun : ∃ v1 w1, (Builtin.append_ #[23, 23] o.type #[v, .slice A ys.length c]).run Try.prog w = .ok v1 w1 ∧ w1.ownsRow base 5 1 v1 (xs ++ ys).length (nums .u8 (xs ++ ys)) ∧ w.grownBy w1 v.ownBlock ∧ (v1.ownBlock = v.ownBlock ∨ v1.ownBlock = some w.heap.size) := by
    rcases A with _ | ad
    · obtain rfl : ys = [] := by
        cases ys with
        | nil => rfl
        | cons y r =>
          obtain ⟨ad, h, _⟩ := hC.2.2 (by simp)
          cases h
      refine ⟨v, w, ?_, by simpa using hown, World.grownBy.refl w _, .inl rfl⟩
      rcases hown.2 with ⟨rfl, hn⟩ | ⟨g, cap, cur, rfl, _, _, hnc, _⟩
      · simp [Builtin.append_, run_underlying Try.underlying23, sizeOf, typeInfo, hi, Builtin.lenOf, Builtin.firstCells]
      · simp [Builtin.append_, run_underlying Try.underlying23, sizeOf, typeInfo, hi, Builtin.lenOf, Builtin.firstCells, hnc, storeCells]
    · obtain ⟨v1, w1, hr, h2, h3, -, h5⟩ := run_append_own_at (P := Try.prog) w base 23 o.type 5 i0 _ 1 1 Try.underlying23 hi hz0 hz1 hz2 rfl (by decide) v xs.length (nums .u8 xs) hown ad ys.length c (nums .u8 ys) (by simp [nums])
        (fun j u hu => by
          obtain ⟨hj, rfl⟩ := nums_get ys j u hu
          obtain ⟨ad', e, hr⟩ := C_row8 hC (by omega)
          cases e
          exact hr j hj) (by intro u hu; simp only [nums, List.mem_map] at hu; obtain ⟨q, _, rfl⟩ := hu; rfl) (by unfold maxLen; omega) (by omega) hbase
      refine ⟨v1, w1, hr, ?_, h3, h5⟩
      rw [List.length_append, nums_append]
      exact h2
  obtain ⟨v1, w1, hr, hrest⟩ := hrun
  refine ⟨v1, w1, ?_, hrest⟩
  unfold execOp
  simp only [ho, resolve, invoke, builtin, Sem.run_bind, Sem.run_pure, Result.andThen_ok, List.map_toArray, List.map_cons, List.map_nil, hx, hy, hr]
theorem own_empty {w : World} {g base : Nat} (h : w.heap[g]? = some (.cells #[] 5 (0, 0))) (hb : base ≤ g) : w.ownsRow base 5 1 (.slice (some ⟨g, 0, none⟩) 0 0) 0 (nums .u8 []) :=
  ⟨rfl, .inr ⟨g, 0, #[], rfl, hb, h, Nat.le_refl _, Nat.zero_le _, rfl, rfl⟩⟩
theorem own_C8 {w : World} {base : Nat} {v : Value} {xs : List Int} (h : w.ownsRow base 5 1 v xs.length (nums .u8 xs)) (hn : xs.length ≤ 10000000) : ∃ A c, v = .slice A xs.length c ∧ xs.length ≤ c ∧ Kd.C (Kd.int .u8) w A xs.length xs := by
  have h' := h
  obtain ⟨-, ⟨rfl, h0⟩ | ⟨g, cap, cur, rfl, hb, hg, h1, h2, h3, h4⟩⟩ := h'
  · refine ⟨none, 0, by rw [h0], by omega, ?_⟩
    have : xs = [] := List.eq_nil_of_length_eq_zero h0
    subst this
    exact nil_C _ _ _
  · exact ⟨_, cap, rfl, h1, Kd.C_of_reads (h1 := fun _ => rfl) (own_reads_of' (d := (0 : Int)) (enc := Value.int .u8) h)⟩
end Go.Proofs.Ytgdhciilobnelaa.B
