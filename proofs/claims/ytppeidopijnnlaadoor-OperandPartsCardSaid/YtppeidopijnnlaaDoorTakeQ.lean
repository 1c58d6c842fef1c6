/- What operand.Take tells under another prefix, beside what it tells under none. -/
import Derived.Test.YtppeidopijnnlaaDoorTakeP
namespace Go.Proofs.YtppeidopijnnlaaDoor.B
open Go.RowKit Go.Proofs.YtppeidopijnnlaaDoorW.PrintWords Go.Proofs.YtppeidopijnnlaaDoorW.PrintMore Go.RF
set_option linter.unusedVariables false
set_option linter.unusedSimpArgs false
theorem takeRest_mo (l : List Int) (a c used wd k R base idx sc : Int) (rip : Bool) (h : mo (a / 4) = mo (c / 4)) : takeRest l a used wd k R base idx sc rip = takeRest l c used wd k R base idx sc rip := by
  unfold takeRest
  rw [h]
theorem takeF_mo (l : List Int) (a c : Int) (h0 : mo a = mo c) (h1 : mo (a / 2) = mo (c / 2)) (h2 : mo (a / 4) = mo (c / 4)) : takeF l a = takeF l c := by
  unfold takeF
  simp only [h0, h1, takeRest_mo l a c _ _ _ _ _ _ _ _ h2]
theorem takeF_and7 (l : List Int) (a : Int) (h0 : 0 ≤ a) (h1 : a < 256) : takeF l (Go.bits .and .u8 a 7) = takeF l a := by
  rw [and7 a h0 h1]
  refine takeF_mo l _ _ ?_ ?_ ?_
  · rw [mo_eq _ (by omega) (by omega), mo_eq _ h0 h1]; omega
  · rw [mo_eq _ (by omega) (by omega), mo_eq _ (by omega) (by omega)]; omega
  · rw [mo_eq _ (by omega) (by omega), mo_eq _ (by omega) (by omega)]; omega
/-- what T tells under a prefix whose third bit adds m2, beside Q under none -/
def PartRel (m2 : Int) (T Q : TakeT) : Prop :=
  T.2.2.2.2.2.2.2.2.2.1 = Q.2.2.2.2.2.2.2.2.2.1 ∧ T.2.2.2.2.2.2.2.2.2.2 = Q.2.2.2.2.2.2.2.2.2.2 ∧
  (T.2.2.2.2.2.2.2.2.2.2 = 0 → T.1 = Q.1 + m2 ∧ 0 ≤ Q.1 ∧ Q.1 < 8 ∧ T.2.1 = Q.2.1 ∧ T.2.2.2.2.2.2.1 = Q.2.2.2.2.2.2.1 ∧ T.2.2.2.2.2.2.2.1 = Q.2.2.2.2.2.2.2.1
    ∧ (T.2.2.1 = Q.2.2.1 ∨ T.2.2.1 = Q.2.2.1 + 8) ∧ (T.2.2.2.1 = Q.2.2.2.1 ∨ T.2.2.2.1 = Q.2.2.2.1 + 8)
    ∧ (T.2.2.2.2.1 = Q.2.2.2.2.1 ∨ T.2.2.2.2.1 = Q.2.2.2.2.1 + 8 ∨ (Q.2.2.2.2.1 = -1 ∧ T.2.2.2.2.1 = 12))
    ∧ (0 ≤ Q.2.2.1 ∧ Q.2.2.1 < 8) ∧ (-1 ≤ Q.2.2.2.1 ∧ Q.2.2.2.1 < 8) ∧ (-1 ≤ Q.2.2.2.2.1 ∧ Q.2.2.2.2.1 < 8) ∧ (-1 ≤ T.2.2.2.1 ∧ T.2.2.2.1 < 16) ∧ (-1 ≤ T.2.2.2.2.1 ∧ T.2.2.2.2.1 < 16))
theorem rel_fail (m2 : Int) : PartRel m2 failT failT := ⟨rfl, rfl, fun h => absurd h (by decide)⟩
theorem rel_rest (l : List Int) (a used wd k R base idx sc R' base' idx' sc' : Int) (rip : Bool) (hb : 0 ≤ l.getD 0 0 ∧ l.getD 0 0 < 256)
    (hR : R = R' ∨ R = R' + 8) (hB : base = base' ∨ base = base' + 8) (hI : idx = idx' ∨ idx = idx' + 8 ∨ (idx' = -1 ∧ idx = 12)) (hR' : 0 ≤ R' ∧ R' < 8) (hB' : -1 ≤ base' ∧ base' < 8) (hI' : -1 ≤ idx' ∧ idx' < 8) (hB2 : -1 ≤ base ∧ base < 16) (hI2 : -1 ≤ idx ∧ idx < 16) :
    PartRel (mo (a / 4)) (takeRest l a used wd k R base idx sc rip) (takeRest l 0 used wd k R' base' idx' sc' rip) := by
  have hz : mo (0 / 4) = 0 := by rw [mo_eq _ (by decide) (by decide)]; rfl
  unfold takeRest
  by_cases h : (l.length : Int) < used + wd
  · rw [if_pos h, if_pos h]
    exact rel_fail _
  · rw [if_neg h, if_neg h, hz]
    exact ⟨rfl, rfl, fun _ => ⟨by simp, by simp; omega, by simp; omega, rfl, rfl, rfl, hR, hB, hI, hR', hB', hI', hB2, hI2⟩⟩
theorem rel_take (l : List Int) (hl : ∀ y ∈ l, 0 ≤ y ∧ y < 256) (a : Int) (h0 : 0 ≤ a) (h1 : a < 256) : PartRel (mo (a / 4)) (takeF l a) (takeF l 0) := by
  have e0 := mo_eq a h0 h1
  have e1 := mo_eq (a / 2) (by omega) (by omega)
  have z0 : mo 0 = 0 := by rw [mo_eq _ (by decide) (by decide)]; rfl
  have z1 : mo (0 / 2) = 0 := by rw [mo_eq _ (by decide) (by decide)]; rfl
  have hb := getD_range l hl 0
  have hb1 := getD_range l hl 1
  obtain ⟨m0, hm0⟩ : ∃ m, mo a = m := ⟨_, rfl⟩
  obtain ⟨m1, hm1⟩ : ∃ m, mo (a / 2) = m := ⟨_, rfl⟩
  have b0 : m0 = 0 ∨ m0 = 8 := by omega
  have b1 : m1 = 0 ∨ m1 = 8 := by omega
  unfold takeF
  simp only [hm0, hm1, z0, z1]
  clear e0 e1 hm0 hm1 z0 z1
  by_cases hn : l.length = 0
  · rw [if_pos hn, if_pos hn]
    exact rel_fail _
  rw [if_neg hn, if_neg hn]
  by_cases h3 : l.getD 0 0 / 64 = 3
  · rw [if_pos h3, if_pos h3]
    exact rel_rest l a _ _ _ _ _ _ _ _ _ _ _ _ hb (by omega) (.inl rfl) (.inl rfl) (by omega) (by omega) (by omega) (by omega) (by omega)
  rw [if_neg h3, if_neg h3]
  by_cases h4 : l.getD 0 0 % 8 = 4
  · rw [if_pos h4, if_pos h4]
    by_cases h2 : l.length < 2
    · rw [if_pos h2, if_pos h2]
      exact rel_fail _
    rw [if_neg h2, if_neg h2]
    have hI : (if l.getD 1 0 / 8 % 8 + m1 = 4 then (-1 : Int) else l.getD 1 0 / 8 % 8 + m1) = (if l.getD 1 0 / 8 % 8 + 0 = 4 then (-1 : Int) else l.getD 1 0 / 8 % 8 + 0) ∨ (if l.getD 1 0 / 8 % 8 + m1 = 4 then (-1 : Int) else l.getD 1 0 / 8 % 8 + m1) = (if l.getD 1 0 / 8 % 8 + 0 = 4 then (-1 : Int) else l.getD 1 0 / 8 % 8 + 0) + 8 ∨ ((if l.getD 1 0 / 8 % 8 + 0 = 4 then (-1 : Int) else l.getD 1 0 / 8 % 8 + 0) = -1 ∧ (if l.getD 1 0 / 8 % 8 + m1 = 4 then (-1 : Int) else l.getD 1 0 / 8 % 8 + m1) = 12) := by
      split <;> split <;> omega
    have hI' : -1 ≤ (if l.getD 1 0 / 8 % 8 + 0 = 4 then (-1 : Int) else l.getD 1 0 / 8 % 8 + 0) ∧ (if l.getD 1 0 / 8 % 8 + 0 = 4 then (-1 : Int) else l.getD 1 0 / 8 % 8 + 0) < 8 := by split <;> omega
    have hI2 : -1 ≤ (if l.getD 1 0 / 8 % 8 + m1 = 4 then (-1 : Int) else l.getD 1 0 / 8 % 8 + m1) ∧ (if l.getD 1 0 / 8 % 8 + m1 = 4 then (-1 : Int) else l.getD 1 0 / 8 % 8 + m1) < 16 := by split <;> omega
    by_cases h5 : l.getD 1 0 % 8 = 5 ∧ l.getD 0 0 / 64 = 0
    · rw [if_pos h5, if_pos h5]
      exact rel_rest l a _ _ _ _ _ _ _ _ _ _ _ _ hb (.inl rfl) (.inl rfl) hI (by omega) (by omega) hI' (by omega) hI2
    rw [if_neg h5, if_neg h5]
    exact rel_rest l a _ _ _ _ _ _ _ _ _ _ _ _ hb (.inl rfl) (by omega) hI (by omega) (by omega) hI' (by omega) hI2
  rw [if_neg h4, if_neg h4]
  by_cases h5 : l.getD 0 0 % 8 = 5 ∧ l.getD 0 0 / 64 = 0
  · rw [if_pos h5, if_pos h5]
    exact rel_rest l a _ _ _ _ _ _ _ _ _ _ _ _ hb (.inl rfl) (.inl rfl) (.inl rfl) (by omega) (by omega) (by omega) (by omega) (by omega)
  rw [if_neg h5, if_neg h5]
  exact rel_rest l a _ _ _ _ _ _ _ _ _ _ _ _ hb (.inl rfl) (by omega) (.inl rfl) (by omega) (by omega) (by omega) (by omega) (by omega)
end Go.Proofs.YtppeidopijnnlaaDoor.B
