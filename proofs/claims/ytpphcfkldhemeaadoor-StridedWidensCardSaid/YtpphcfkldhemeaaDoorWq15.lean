/- The reference's In, Many, Has in plain words; a set is within another one just if that has all its values. StridedIn tells true. -/
import Derived.Test.YtpphcfkldhemeaaDoorWq14
import Derived.Test.YtpphcfkldhemeaaDoorWq12
import Derived.Test.YtpphcfkldhemeaaDoorWq6
import Derived.Test.YtpphcfkldhemeaaDoorWq9
namespace Go.Proofs.YtpphcfkldhemeaaDoor.B
open Go.RowKit Go.Proofs.YtpphcfkldhemeaaDoorW.PrintWords
set_option linter.unusedVariables false
set_option linter.unusedSimpArgs false
theorem rseen_sm {s l h : Int} (k : Sm s l h) : sundialref22_seen.f s l h = some (s, l, h) := by
  unfold sundialref22_seen.f
  rw [refR_f, right_sm k]
  rfl
theorem rseen_no : sundialref22_seen.f 0 1 0 = some (0, 1, 0) := by decide
theorem rempty_sm {t : T3} (k : SmT t) : sundialref22_empty.f t.1 t.2.1 t.2.2 = some false := by
  unfold sundialref22_empty.f sundialref22_None.f
  have := k.no
  unfold noB at this
  simp only [Option.bind_some, this]
theorem rhas_sm {t : T3} (k : SmT t) {x : Int} (hx : Rg x) : sundialref22_Has.f t.1 t.2.1 t.2.2 x = some (decide (hasP t.1 t.2.1 t.2.2 x)) := by
  obtain ⟨h1, h2, h3, h4⟩ := k.rg
  unfold Rg at *
  unfold sundialref22_Has.f hasP
  rw [rseen_sm k]
  simp only [Option.bind_some]
  rw [rempty_sm k]
  simp only [Option.bind_some, Bool.false_eq_true, if_false]
  by_cases a : x < t.2.1
  · rw [if_pos a]; congr 1; exact (decide_eq_false fun e => by have := e.1; omega).symm
  · rw [if_neg a]
    by_cases b : x > t.2.2
    · rw [if_pos b]; congr 1; exact (decide_eq_false fun e => by have := e.2.1; omega).symm
    · rw [if_neg b]
      by_cases c : t.1 = 0
      · rw [if_pos c]
        have : t.2.1 = t.2.2 := by
          have k' : Sm t.1 t.2.1 t.2.2 := k
          rw [c] at k'; exact k'.zero
        congr 1
        refine (decide_eq_true ⟨by omega, by omega, ?_⟩).symm
        rw [show x - t.2.1 = 0 by omega]
        exact Int.dvd_zero _
      · rw [if_neg c, tmod0, wrapU (by omega) (by omega)]
        congr 1
        simp [show t.2.1 ≤ x by omega, show x ≤ t.2.2 by omega]
theorem rin_f {a b : T3} (ha : Ok a) (hb : Ok b) : sundialref22_In.f a.1 a.2.1 a.2.2 b.1 b.2.1 b.2.2 = some (inT a b) := by
  have sa : sundialref22_seen.f a.1 a.2.1 a.2.2 = some a := by
    rcases ha with rfl | k
    · exact rseen_no
    · exact rseen_sm k
  have sb : sundialref22_seen.f b.1 b.2.1 b.2.2 = some b := by
    rcases hb with rfl | k
    · exact rseen_no
    · exact rseen_sm k
  unfold sundialref22_In.f
  rw [sa, sb]
  simp only [Option.bind_some]
  cases hna : noB a with
  | true => rw [noB_iff] at hna; subst hna; rfl
  | false =>
    have ka := ha.sm hna
    obtain ⟨⟨k1, k2⟩, ⟨k3, k4⟩, ⟨k5, k6⟩, k7⟩ := ka.rg
    rw [rempty_sm ka]
    simp only [Option.bind_some, Bool.false_eq_true, if_false]
    cases hnb : noB b with
    | true =>
      rw [noB_iff] at hnb; subst hnb
      have e : sundialref22_Has.f none3.1 none3.2.1 none3.2.2 a.2.1 = some false := rfl
      rw [e]
      unfold inT
      rw [hna]
      rfl
    | false =>
      have kb := hb.sm hnb
      obtain ⟨⟨m1, m2⟩, ⟨m3, m4⟩, ⟨m5, m6⟩, m7⟩ := kb.rg
      rw [rhas_sm kb ⟨k3, k4⟩]
      simp only [Option.bind_some]
      have ein : inT a b = decide (inP a.1 a.2.1 a.2.2 b.1 b.2.1 b.2.2) := by unfold inT; rw [hna, hnb]; simp
      rw [ein]
      by_cases p1 : hasP b.1 b.2.1 b.2.2 a.2.1
      · rw [if_pos (decide_eq_true p1), rhas_sm kb ⟨k5, k6⟩]
        simp only [Option.bind_some]
        by_cases p2 : hasP b.1 b.2.1 b.2.2 a.2.2
        · rw [if_pos (decide_eq_true p2)]
          by_cases c : a.1 = 0
          · rw [if_pos c]
            congr 1
            exact (decide_eq_true ⟨p1.1, p2.2.1, p1.2.2, by rw [c]; exact Int.dvd_zero _⟩).symm
          · rw [if_neg c]
            have hlt : a.2.1 < a.2.2 := by
              rcases ka.2.2 with ⟨e, -⟩ | ⟨-, h, -⟩
              · exact absurd e c
              · exact h
            have hle : a.1 ≤ a.2.2 - a.2.1 := Int.le_of_dvd (by omega) ka.hl
            rw [wrapU (x := a.2.1 + a.1) (by omega) (by omega), rhas_sm kb ⟨by omega, by omega⟩]
            simp only [Option.bind_some]
            have hd : 0 < b.1 := by
              rcases kb.2.2 with ⟨e, e2⟩ | ⟨h, -, -⟩
              · exfalso
                have q1 := p1.1; have q2 := p2.2.1
                omega
              · exact h
            have hmx : mx b.1 1 = b.1 := by unfold mx; omega
            rw [hmx]
            by_cases p3 : hasP b.1 b.2.1 b.2.2 (a.2.1 + a.1)
            · rw [if_pos (decide_eq_true p3), if_neg (by omega), tmod0]
              congr 1
              rw [decide_eq_decide]
              exact ⟨fun h => ⟨p1.1, p2.2.1, p1.2.2, h⟩, fun h => h.2.2.2⟩
            · rw [if_neg (by rw [decide_eq_false p3]; decide)]
              congr 1
              refine (decide_eq_false fun h => p3 ⟨?_, ?_, ?_⟩).symm
              · have := h.1; omega
              · have := h.2.1; omega
              · rw [show a.2.1 + a.1 - b.2.1 = (a.2.1 - b.2.1) + a.1 by omega]
                exact Int.dvd_add h.2.2.1 h.2.2.2
        · rw [if_neg (by rw [decide_eq_false p2]; decide)]
          congr 1
          refine (decide_eq_false fun h => p2 ⟨?_, h.2.1, dvd_high ka h.2.2.1 h.2.2.2⟩).symm
          have := h.1; omega
      · rw [if_neg (by rw [decide_eq_false p1]; decide)]
        congr 1
        refine (decide_eq_false fun h => p1 ⟨h.1, ?_, h.2.2.1⟩).symm
        have := h.2.1; omega
end Go.Proofs.YtpphcfkldhemeaaDoor.B
namespace Go.Proofs.YtpphcfkldhemeaaDoor.B
open Go.RowKit Go.Proofs.YtpphcfkldhemeaaDoorW.PrintWords Go.Proofs.YtpphcfkldhemeaaDoorW.PrintMore Go.RF
set_option linter.unusedVariables false
set_option linter.unusedSimpArgs false
theorem gtr_t {x y : Int} (h : y < x) (w : World) : (binOp .gtr 22 (.int .u64 x) (.int .u64 y)).run Tryd.prog w = .ok (.bool true) w := by simp [binOp, Op.intCmp]; omega
theorem gtr_f {x y : Int} (h : x ≤ y) (w : World) : (binOp .gtr 22 (.int .u64 x) (.int .u64 y)).run Tryd.prog w = .ok (.bool false) w := by simp [binOp, Op.intCmp]; omega
theorem lssi_t {x y : Int} (h : x < y) (w : World) : (binOp .lss 3 (.int .i64 x) (.int .i64 y)).run Tryd.prog w = .ok (.bool true) w := by simp [binOp, Op.intCmp]; omega
theorem lssi_f {x y : Int} (h : y ≤ x) (w : World) : (binOp .lss 3 (.int .i64 x) (.int .i64 y)).run Tryd.prog w = .ok (.bool false) w := by simp [binOp, Op.intCmp]; omega
theorem run_indexAddr {P : Program} {o : Oper} {ρ : Operand → Value} {t : TypeId} {x y : Operand} {a b v : Value} {w : World} (ho : o.op = .indexAddr t x y) (hx : ρ x = a) (hy : ρ y = b) (h : (Instr.indexAt t a b).run P w = .ok v w) : (execOp ρ o).run P w = .ok (.value v) w := by
  unfold execOp
  simp only [ho, hx, hy, Sem.run_bind, h, Result.andThen_ok, Sem.run_pure]
def InS (w0 : World) (g0 g1 g2 g3 : Nat) (a b c j : T3) (w : World) : Prop := OrS w0 g0 g1 g2 a b c w ∧ w.heap[g3]? = some (.cells (setK j) 24 (0, 0))
theorem InS.met {w0 : World} {g0 g1 g2 g3 : Nat} {a b c j : T3} {w w' : World} (h : InS w0 g0 g1 g2 g3 a b c j w) (hb : Below w.heap.size w w') : InS w0 g0 g1 g2 g3 a b c j w' := ⟨h.1.met hb, heap_below hb h.2⟩
theorem InS.drew {w0 : World} {g0 g1 g2 g3 : Nat} {a b c j : T3} {w : World} (h : InS w0 g0 g1 g2 g3 a b c j w) : InS w0 g0 g1 g2 g3 a b c j { w with drawn := w.drawn + 1 } := ⟨h.1.drew, h.2⟩
def InL (w0 : World) (g0 g1 g2 g3 : Nat) (a b c j : T3) (A : Option Addr) (n : Nat) (w : World) : Prop := InS w0 g0 g1 g2 g3 a b c j w ∧ ∀ ad, A = some ad → ∀ i : Nat, i < n → w.cell? (ad.add i) = some (.int .u64 (a.2.1 + i * a.1))
theorem InL.met {w0 : World} {g0 g1 g2 g3 : Nat} {a b c j : T3} {A : Option Addr} {n : Nat} {w w' : World} (h : InL w0 g0 g1 g2 g3 a b c j A n w) (hb : Below w.heap.size w w') : InL w0 g0 g1 g2 g3 a b c j A n w' :=
  ⟨h.1.met hb, fun ad e i hi => pw_cell_below hb (h.2 ad e i hi)⟩
theorem InL.drew {w0 : World} {g0 g1 g2 g3 : Nat} {a b c j : T3} {A : Option Addr} {n : Nat} {w : World} (h : InL w0 g0 g1 g2 g3 a b c j A n w) : InL w0 g0 g1 g2 g3 a b c j A n { w with drawn := w.drawn + 1 } := ⟨h.1.drew, h.2⟩
end Go.Proofs.YtpphcfkldhemeaaDoor.B
