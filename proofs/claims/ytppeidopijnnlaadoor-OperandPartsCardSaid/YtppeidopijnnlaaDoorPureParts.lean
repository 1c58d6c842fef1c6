/- The law OperandParts, of what its walk computes. -/
import Derived.Test.YtppeidopijnnlaaDoorTakeQ
import Derived.Test.YtppeidopijnnlaaDoorBx8
namespace Go.Proofs.YtppeidopijnnlaaDoor.B
open Go.RowKit Go.Proofs.YtppeidopijnnlaaDoorW.PrintWords Go.Proofs.YtppeidopijnnlaaDoorW.PrintLast Go.Proofs.YtppeidopijnnlaaDoorW.PrintMore Go.RF
set_option linter.unusedVariables false
set_option linter.unusedSimpArgs false
theorem wf_u8 {x : Int} (h : (Lit.int .u8 x).wf = true) : 0 ≤ x ∧ x < 256 := by
  have h' : IntKind.u8.min ≤ x ∧ x ≤ IntKind.u8.max := by simpa [Lit.wf] using h
  have e1 : IntKind.u8.min = 0 := rfl
  have e2 : IntKind.u8.max = 255 := rfl
  omega
theorem wakes_f : sundiallaw08_wakes.f = some true := by
  have a1 : operand_Take.f [193] 0 = some (0, 1, 1, -1, -1, 0, 0, false, 0, 1, 0) := by show G.Take _ _ = _; rw [G.Take_eq]; exact take_c1
  have a2 : operand_Take.f [68, 36, 8, 99] 0 = some (0, 2, 0, 4, -1, 1, 8, false, 0, 3, 0) := by show G.Take _ _ = _; rw [G.Take_eq]; exact take_c2
  have a3 : operand_Take.f [] 0 = some (0, 0, 0, 0, 0, 0, 0, false, 0, 0, 80) := by show G.Take _ _ = _; rw [G.Take_eq]; exact take_c3
  have m : operand_Mem.f 4 8 = some (2, 0, 4, -1, 1, 8, false, 0) := by kernel_rfl
  have r : operand_Reg.f 1 = some (1, 1, -1, -1, 0, 0, false, 0) := by kernel_rfl
  have p0 : G.Put 9 2 0 4 (-1) 1 8 false 0 = some ([76, 36, 8], 4, 0) := by rw [G.Put_eq]; kernel_rfl
  have p : operand_Put.f 9 2 0 4 (-1) 1 8 false 0 = some ([76, 36, 8], 4, 0) := p0
  have c := wkC16 p0
  unfold sundiallaw08_wakes.f
  simp only [a1, a2, a3, m, r, p, c, Option.bind_some]
  simp
theorem uses_f (a0 a1 a2 a3 a4 a5 : Int) (a6 : Bool) (a7 : Int) : operand_Uses.f a0 a1 a2 a3 a4 a5 a6 a7 = some (regL a0 a2 a3 0) := by
  show G.Uses a0 a1 a2 a3 a4 a5 a6 a7 = _
  rw [G.Uses_eq]
  rfl
theorem take_f (l : List Int) (a : Int) (hl : ∀ y ∈ l, 0 ≤ y ∧ y < 256) (h0 : 0 ≤ a) (h1 : a < 256) : operand_Take.f l a = some (takeF l a) := by
  show G.Take l a = _
  rw [G.Take_eq]
  unfold takeO
  rw [if_pos ⟨hl, h0, h1⟩]
section
variable (x0 x1 x2 x3 x4 x5 : Int) (x6 : Bool) (x7 y0 y1 y2 y3 y4 y5 : Int) (y6 : Bool) (y7 : Int)
theorem l0_all (us : List Int) (hl : us.length ≤ 2) (hin : ∀ x ∈ us, 0 ≤ x ∧ x ≤ 15) (hb : -1 ≤ y3 ∧ y3 < 8) (hi : x3 = y3 ∨ x3 = y3 + 8 ∨ (y3 = -1 ∧ x3 = 12)) :
    ∀ (m i k : Nat), us.length - i = m → m < k → sundiallaw08_OperandParts.l0 k us (i : Int) x0 x1 x2 x3 x4 x5 x6 x7 y0 y1 y2 y3 y4 y5 y6 y7 = some true := by
  intro m
  induction m with
  | zero =>
    intro i k hm hk
    obtain ⟨k, rfl⟩ : ∃ k', k = k' + 1 := ⟨k - 1, by omega⟩
    have hw : wrap64 (y3 + 8) = y3 + 8 := by unfold wrap64; omega
    rw [sundiallaw08_OperandParts.l0, if_neg (show ¬ (i : Int) < (us.length : Int) by omega), hw]
    have h2 : (us.length : Int) ≤ 2 := by omega
    rw [if_pos h2, wakes_f]
    rcases hi with h | h | ⟨h, h'⟩
    · rw [if_pos h]; rfl
    · rw [if_neg (show ¬ x3 = y3 by omega), if_pos h]; rfl
    · rw [if_neg (show ¬ x3 = y3 by omega), if_neg (show ¬ x3 = y3 + 8 by omega), if_pos h, if_pos h']; rfl
  | succ m ih =>
    intro i k hm hk
    obtain ⟨k, rfl⟩ : ∃ k', k = k' + 1 := ⟨k - 1, by omega⟩
    have hlt : i < us.length := by omega
    have hv := hin (us.getD i 0) (by rw [List.getD_eq_getElem?_getD, List.getElem?_eq_getElem hlt]; exact List.getElem_mem _)
    have hrd : rd us (i : Int) = us.getD i 0 := by simp [rd]
    have hw : wrap64 ((i : Int) + 1) = ((i + 1 : Nat) : Int) := by unfold wrap64; omega
    rw [sundiallaw08_OperandParts.l0, if_pos (show (i : Int) < (us.length : Int) by omega), if_pos (show (0 : Int) ≤ (i : Int) by omega), hrd, if_neg (show ¬ us.getD i 0 < 0 by omega), if_neg (show ¬ us.getD i 0 > 15 by omega), hw]
    exact ih (i + 1) k (by omega) (by omega)
theorem regL_in (k b i : Int) (hb : b < 16) (hi : i < 16) : ∀ x ∈ regL k b i 0, 0 ≤ x ∧ x ≤ 15 := by
  intro x hx
  unfold regL regP at hx
  rcases List.mem_append.1 hx with h | h
  · split at h
    · simp at h; omega
    · simp at h
  · split at h
    · simp at h; omega
    · simp at h
theorem j1_true (k : Nat) (hk : 3 < k) (h2 : x2 < 16) (h3 : x3 < 16) (hb : -1 ≤ y3 ∧ y3 < 8) (hi : x3 = y3 ∨ x3 = y3 + 8 ∨ (y3 = -1 ∧ x3 = 12)) :
    sundiallaw08_OperandParts.j1 k false x0 x1 x2 x3 x4 x5 x6 x7 y0 y1 y2 y3 y4 y5 y6 y7 = some true := by
  obtain ⟨k, rfl⟩ : ∃ k', k = k' + 1 := ⟨k - 1, by omega⟩
  rw [sundiallaw08_OperandParts.j1, if_neg (by decide), uses_f]
  show sundiallaw08_OperandParts.l0 k (regL x0 x2 x3 0) 0 x0 x1 x2 x3 x4 x5 x6 x7 y0 y1 y2 y3 y4 y5 y6 y7 = some true
  have := regL_len x0 x2 x3
  exact l0_all x0 x1 x2 x3 x4 x5 x6 x7 y0 y1 y2 y3 y4 y5 y6 y7 (regL x0 x2 x3 0) this (regL_in x0 x2 x3 h2 h3) hb hi _ 0 k rfl (by omega)
theorem j0_true (a t1 te q1 : Int) (k : Nat) (hk : 4 < k) (ha : 0 ≤ a ∧ a < 256) (hrel : te = 0 → t1 = q1 + mo (a / 4) ∧ 0 ≤ q1 ∧ q1 < 8 ∧ x0 = y0 ∧ x5 = y5 ∧ x6 = y6 ∧ (x1 = y1 ∨ x1 = y1 + 8) ∧ (x2 = y2 ∨ x2 = y2 + 8)
      ∧ (x3 = y3 ∨ x3 = y3 + 8 ∨ (y3 = -1 ∧ x3 = 12)) ∧ (0 ≤ y1 ∧ y1 < 8) ∧ (-1 ≤ y2 ∧ y2 < 8) ∧ (-1 ≤ y3 ∧ y3 < 8) ∧ (-1 ≤ x2 ∧ x2 < 16) ∧ (-1 ≤ x3 ∧ x3 < 16)) :
    sundiallaw08_OperandParts.j0 k a t1 te q1 false x0 x1 x2 x3 x4 x5 x6 x7 y0 y1 y2 y3 y4 y5 y6 y7 = some true := by
  obtain ⟨k, rfl⟩ : ∃ k', k = k' + 1 := ⟨k - 1, by omega⟩
  rw [sundiallaw08_OperandParts.j0, if_neg (by decide)]
  by_cases he : te = 0
  · obtain ⟨h1, hq0, hq1, rfl, rfl, rfl, hR, hB, hI, hy1, hy2, hy3, hx2, hx3⟩ := hrel he
    have hm := mo_eq (a / 4) (by omega) (by omega)
    have hw : wrap64 (q1 + wrap64 (8 * wrap64 (Go.bits .and .u8 (a / 4) 1))) = t1 := by
      have e := bit_cases ⟨(a / 4).toNat, by omega⟩
      have e2 : (((⟨(a / 4).toNat, by omega⟩ : Fin 256).val : Nat) : Int) = a / 4 := by show (((a / 4).toNat : Nat) : Int) = a / 4; omega
      rw [e2] at e
      rw [e, h1, hm]
      unfold wrap64
      omega
    have hw1 : wrap64 (y1 + 8) = y1 + 8 := by unfold wrap64; omega
    have hw2 : wrap64 (y2 + 8) = y2 + 8 := by unfold wrap64; omega
    have J := j1_true x0 x1 x2 x3 x4 x5 x6 x7 x0 y1 y2 y3 y4 x5 x6 y7 k (by omega) hx2.2 hx3.2 hy3 hI
    have hbb : (x6 != x6) = false := by simp
    rw [if_pos he, hw, if_pos rfl, if_pos rfl, if_pos rfl, hbb, if_neg (by decide), hw1, hw2]
    have hB2 : ¬ x2 = y2 → (x2 != y2 + 8) = false := fun h => by
      have : x2 = y2 + 8 := by omega
      simp [this]
    by_cases e1 : x1 = y1
    · rw [if_pos e1]
      by_cases e2 : x2 = y2
      · rw [if_pos e2]; exact J
      · rw [if_neg e2, hB2 e2]; exact J
    · rw [if_neg e1, if_pos (show x1 = y1 + 8 by omega)]
      by_cases e2 : x2 = y2
      · rw [if_pos e2]; exact J
      · rw [if_neg e2, hB2 e2]; exact J
  · rw [if_neg he, wakes_f]
    rfl
end
theorem Pure.OperandParts (l0 : List Int) (a1 : Int) (hg : ∀ y ∈ l0, (Lit.int .u8 y).wf = true) (w1 : (Lit.int .u8 a1).wf = true) : ∃ k, sundiallaw08_OperandParts.f k l0 a1 = some true := by
  have hl : ∀ y ∈ l0, 0 ≤ y ∧ y < 256 := fun y hy => wf_u8 (hg y hy)
  have ha := wf_u8 w1
  refine ⟨5, ?_⟩
  unfold sundiallaw08_OperandParts.f
  by_cases hn : (l0.length : Int) > 20
  · rw [if_pos hn, wakes_f]
    rfl
  have h7 : 0 ≤ Go.bits .and .u8 a1 7 ∧ Go.bits .and .u8 a1 7 < 256 := by rw [and7 a1 ha.1 ha.2]; omega
  have R := rel_take l0 hl a1 ha.1 ha.2
  rw [if_neg hn, take_f l0 a1 hl ha.1 ha.2, take_f l0 _ hl h7.1 h7.2, takeF_and7 l0 a1 ha.1 ha.2, take_f l0 0 hl (by decide) (by decide)]
  obtain ⟨⟨t1, t2, t3, t4, t5, t6, t7, t8, t9, t10, t11⟩, hT⟩ : ∃ t, takeF l0 a1 = t := ⟨_, rfl⟩
  obtain ⟨⟨q1, q2, q3, q4, q5, q6, q7, q8, q9, q10, q11⟩, hQ⟩ : ∃ t, takeF l0 0 = t := ⟨_, rfl⟩
  rw [hT, hQ] at R
  rw [hT, hQ]
  obtain ⟨hn', he', hr⟩ := R
  simp only at hn' he' hr
  subst hn' he'
  simp only [Option.bind_some, if_true, beq_self_eq_true, Bool.not_true, Bool.or_self, Bool.false_eq_true, if_false, bne_self_eq_false]
  exact j0_true t2 t3 t4 t5 t6 t7 t8 t9 q2 q3 q4 q5 q6 q7 q8 q9 a1 t1 t11 q1 5 (by decide) ha hr
end Go.Proofs.YtppeidopijnnlaaDoor.B
