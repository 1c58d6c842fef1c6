import Derived.Test.YtkpkgpopmodagaaBx2
import Derived.Test.YtkpkgpopmodagaaBx3
import Derived.Test.YtkpkgpopmodagaaBx4
import Derived.Test.YtkpkgpopmodagaaBx5
import Derived.Test.YtkpkgpopmodagaaBy
namespace Go.Proofs.Ytkpkgpopmodagaa.B
open Go.RowKit Go.Proofs.YtkpkgpopmodagaaW.PrintWords Go.Proofs.YtkpkgpopmodagaaW.PrintLast Go.Proofs.YtkpkgpopmodagaaW.PrintMore Go.RF
set_option linter.unusedVariables false
set_option linter.unusedSimpArgs false
theorem wakes_true : sundiallaw12_wakes.f = some true := by kernel_rfl
theorem w64 {x : Int} (h : -9223372036854775808 ≤ x ∧ x < 9223372036854775808) : wrap64 x = x := by unfold wrap64; omega
theorem great_l (l : List S34) : ∀ (m i : Nat), 21 ≤ i + m → i ≤ 21 → i ≤ l.length → ∃ g, (∀ k, 2 * m + 2 ≤ k → sundialref12_Great.l0 k l (i : Int) = some g) ∧ (g = false → l.length ≤ 20 ∧ ∀ j : Nat, i ≤ j → j < l.length → (rd_T34 l (j : Int)).f2.length ≤ 4096) := by
  intro m
  induction m with
  | zero =>
    intro i h1 h2 h3
    refine ⟨decide ((l.length : Int) > 20), fun k hk => ?_, fun h => by have := of_decide_eq_false h; exact ⟨by omega, fun j h4 h5 => by omega⟩⟩
    obtain ⟨k, rfl⟩ : ∃ q, k = q + 2 := ⟨k - 2, by omega⟩
    unfold sundialref12_Great.l0
    have e : decide ((i : Int) ≤ 20) = false := decide_eq_false (by omega)
    rw [e]
    unfold sundialref12_Great.j1
    simp
  | succ m ih =>
    intro i h1 h2 h3
    by_cases hi : i < l.length
    · by_cases hi2 : i ≤ 20
      · by_cases hl : (rd_T34 l (i : Int)).f2.length > 4096
        · refine ⟨true, fun k hk => ?_, fun h => by cases h⟩
          obtain ⟨k, rfl⟩ : ∃ q, k = q + 2 := ⟨k - 2, by omega⟩
          unfold sundialref12_Great.l0
          rw [if_pos (by omega), show decide ((i : Int) ≤ 20) = true from decide_eq_true (by omega)]
          unfold sundialref12_Great.j1
          rw [if_pos rfl, if_pos (by omega), if_pos (by omega), if_pos (by omega)]
        · obtain ⟨g, hg, hq⟩ := ih (i + 1) (by omega) (by omega) (by omega)
          refine ⟨g, fun k hk => ?_, fun h => ⟨(hq h).1, fun j h4 h5 => ?_⟩⟩
          · obtain ⟨k, rfl⟩ : ∃ q, k = q + 2 := ⟨k - 2, by omega⟩
            unfold sundialref12_Great.l0
            rw [if_pos (by omega), show decide ((i : Int) ≤ 20) = true from decide_eq_true (by omega)]
            unfold sundialref12_Great.j1
            rw [if_pos rfl, if_pos (by omega), if_pos (by omega), if_neg (by omega), w64 (by omega), ← hg k (by omega)]
            rfl
          · by_cases e : j = i
            · subst e; omega
            · exact (hq h).2 j (by omega) h5
      · refine ⟨decide ((l.length : Int) > 20), fun k hk => ?_, fun h => by have := of_decide_eq_false h; exact ⟨by omega, fun j h4 h5 => by omega⟩⟩
        obtain ⟨k, rfl⟩ : ∃ q, k = q + 2 := ⟨k - 2, by omega⟩
        unfold sundialref12_Great.l0
        rw [if_pos (by omega), show decide ((i : Int) ≤ 20) = false from decide_eq_false (by omega)]
        unfold sundialref12_Great.j1
        rw [if_neg (by simp)]
    · refine ⟨decide ((l.length : Int) > 20), fun k hk => ?_, fun h => by have := of_decide_eq_false h; exact ⟨by omega, fun j h4 h5 => by omega⟩⟩
      obtain ⟨k, rfl⟩ : ∃ q, k = q + 2 := ⟨k - 2, by omega⟩
      unfold sundialref12_Great.l0
      rw [if_neg (by omega)]
      unfold sundialref12_Great.j1
      rw [if_neg (by simp)]
theorem great_some (l : List S34) : ∃ g, (∀ k, 50 ≤ k → sundialref12_Great.f k l = some g) ∧ (g = false → l.length ≤ 20 ∧ ∀ x ∈ l, x.f2.length ≤ 4096) := by
  obtain ⟨g, hg, hq⟩ := great_l l 21 0 (by omega) (by omega) (by omega)
  refine ⟨g, fun k hk => hg k (by omega), fun h => ⟨(hq h).1, fun x hx => ?_⟩⟩
  obtain ⟨j, hj, rfl⟩ := List.mem_iff_getElem.1 hx
  have := (hq h).2 j (by omega) hj
  have e := rd_get hj
  rw [List.getElem?_eq_getElem hj] at e
  injection e with e
  rw [e]; exact this
/-- what the reference asks of a page -/
def PageR (l : List S34) (i : Nat) : Prop := Int.tmod (rd_T34 l (i : Int)).f0 4096 = 0 ∧ (rd_T34 l (i : Int)).f2.length = 4096 ∧ (rd_T34 l (i : Int)).f1 ≤ 7 ∧
  ¬ (Go.bits .and .u8 (rd_T34 l (i : Int)).f1 1 ≠ 0 ∧ Go.bits .and .u8 (rd_T34 l (i : Int)).f1 2 ≠ 0) ∧ (0 < i → (rd_T34 l ((i - 1 : Nat) : Int)).f0 < (rd_T34 l (i : Int)).f0)
theorem right_l (l : List S34) (hl : l.length ≤ 20) : ∀ (m i : Nat), l.length = i + m → ∃ g, (∀ k, m + 1 ≤ k → sundialref12_Right.l0 k l (i : Int) = some g) ∧ (g = true ↔ (∀ j, i ≤ j → j < l.length → PageR l j) ∧ l.length ≤ 16) := by
  intro m
  induction m with
  | zero =>
    intro i h
    refine ⟨decide ((l.length : Int) ≤ 16), fun k hk => ?_, ?_⟩
    · obtain ⟨k, rfl⟩ : ∃ q, k = q + 1 := ⟨k - 1, by omega⟩
      unfold sundialref12_Right.l0
      rw [if_neg (by omega)]
    · rw [decide_eq_true_iff]
      exact ⟨fun h' => ⟨fun j h1 h2 => by omega, by omega⟩, fun h' => by have := h'.2; omega⟩
  | succ m ih =>
    intro i h
    obtain ⟨g, hg, hq⟩ := ih (i + 1) (by omega)
    have split_ : ((∀ j, i ≤ j → j < l.length → PageR l j) ∧ l.length ≤ 16) ↔ PageR l i ∧ ((∀ j, i + 1 ≤ j → j < l.length → PageR l j) ∧ l.length ≤ 16) :=
      ⟨fun h' => ⟨h'.1 i (Nat.le_refl _) (by omega), fun j h1 h2 => h'.1 j (by omega) h2, h'.2⟩, fun h' => ⟨fun j h1 h2 => by
        by_cases e : j = i
        · subst e; exact h'.1
        · exact h'.2.1 j (by omega) h2, h'.2.2⟩⟩
    rw [split_, ← hq]
    clear split_ hq
    have w1 : wrap64 ((i : Int) + 1) = ((i + 1 : Nat) : Int) := by rw [w64 (by omega)]; rfl
    have hnext : ∀ k, m + 1 ≤ k → sundialref12_Right.l0 k l (wrap64 ((i : Int) + 1)) = some g := fun k hk => by rw [w1]; exact hg k hk
    have wp : 0 < i → wrap64 ((i : Int) - 1) = ((i - 1 : Nat) : Int) := fun h0 => by rw [w64 (by omega)]; omega
    by_cases hP : PageR l i
    · refine ⟨g, fun k hk => ?_, by simp [hP]⟩
      obtain ⟨k, rfl⟩ : ∃ q, k = q + 1 := ⟨k - 1, by omega⟩
      obtain ⟨p1, p2, p3, p4, p5⟩ := hP
      have hn := hnext k (by omega)
      unfold sundialref12_Right.l0
      rw [if_pos (by omega), if_pos (by omega)]
      by_cases b1 : Go.bits .and .u8 (rd_T34 l (i : Int)).f1 1 = 0
      · rw [if_pos b1, if_pos p1, if_pos (by omega), if_neg (by omega)]
        by_cases h0 : 0 < i
        · rw [if_pos (by omega), wp h0, if_pos (by omega), if_pos (by omega), if_neg (by have := p5 h0; omega), hn]
        · rw [if_neg (by omega), hn]
      · have b2 : Go.bits .and .u8 (rd_T34 l (i : Int)).f1 2 = 0 := Classical.byContradiction fun hc => p4 ⟨b1, hc⟩
        rw [if_neg b1, if_pos p1, if_pos (by omega), if_neg (by omega), if_pos b2]
        by_cases h0 : 0 < i
        · rw [if_pos (by omega), wp h0, if_pos (by omega), if_pos (by omega), if_neg (by have := p5 h0; omega), hn]
        · rw [if_neg (by omega), hn]
    · refine ⟨false, fun k hk => ?_, by simp [hP]⟩
      obtain ⟨k, rfl⟩ : ∃ q, k = q + 1 := ⟨k - 1, by omega⟩
      unfold sundialref12_Right.l0
      rw [if_pos (by omega), if_pos (by omega)]
      unfold PageR at hP
      by_cases p1 : Int.tmod (rd_T34 l (i : Int)).f0 4096 = 0
      · by_cases p2 : ((rd_T34 l (i : Int)).f2.length : Int) = 4096
        · by_cases p3 : (rd_T34 l (i : Int)).f1 > 7
          · by_cases b1 : Go.bits .and .u8 (rd_T34 l (i : Int)).f1 1 = 0
            · rw [if_pos b1, if_pos p1, if_pos p2, if_pos p3]
            · rw [if_neg b1, if_pos p1, if_pos p2, if_pos p3]
          · by_cases b1 : Go.bits .and .u8 (rd_T34 l (i : Int)).f1 1 = 0
            · rw [if_pos b1, if_pos p1, if_pos p2, if_neg p3]
              have h5 : ¬ (0 < i → (rd_T34 l ((i - 1 : Nat) : Int)).f0 < (rd_T34 l (i : Int)).f0) := fun h5 => hP ⟨p1, by omega, by omega, fun h => h.1 b1, h5⟩
              have h0 : 0 < i := Classical.byContradiction fun hc => h5 (fun h => absurd h hc)
              have h6 : (rd_T34 l ((i - 1 : Nat) : Int)).f0 ≥ (rd_T34 l (i : Int)).f0 := Int.not_lt.1 fun hc => h5 (fun _ => hc)
              rw [if_pos (by omega), wp h0, if_pos (by omega), if_pos (by omega), if_pos h6]
            · rw [if_neg b1, if_pos p1, if_pos p2, if_neg p3]
              by_cases b2 : Go.bits .and .u8 (rd_T34 l (i : Int)).f1 2 = 0
              · rw [if_pos b2]
                have h5 : ¬ (0 < i → (rd_T34 l ((i - 1 : Nat) : Int)).f0 < (rd_T34 l (i : Int)).f0) := fun h5 => hP ⟨p1, by omega, by omega, fun h => h.2 b2, h5⟩
                have h0 : 0 < i := Classical.byContradiction fun hc => h5 (fun h => absurd h hc)
                have h6 : (rd_T34 l ((i - 1 : Nat) : Int)).f0 ≥ (rd_T34 l (i : Int)).f0 := Int.not_lt.1 fun hc => h5 (fun _ => hc)
                rw [if_pos (by omega), wp h0, if_pos (by omega), if_pos (by omega), if_pos h6]
              · rw [if_neg b2]
        · by_cases b1 : Go.bits .and .u8 (rd_T34 l (i : Int)).f1 1 = 0
          · rw [if_pos b1, if_pos p1, if_neg p2]
          · rw [if_neg b1, if_pos p1, if_neg p2]
      · by_cases b1 : Go.bits .and .u8 (rd_T34 l (i : Int)).f1 1 = 0
        · rw [if_pos b1, if_neg p1]
        · rw [if_neg b1, if_neg p1]
def PagesR (l : List S34) : Prop := (∀ j, j < l.length → PageR l j) ∧ l.length ≤ 16
theorem right_some (l : List S34) (hl : l.length ≤ 20) : ∃ g, (∀ k, 50 ≤ k → sundialref12_Right.f k l = some g) ∧ (g = true ↔ PagesR l) := by
  obtain ⟨g, hg, hq⟩ := right_l l hl l.length 0 (by omega)
  exact ⟨g, fun k hk => hg k (by omega), hq.trans ⟨fun h => ⟨fun j hj => h.1 j (by omega) hj, h.2⟩, fun h => ⟨fun j _ hj => h.1 j hj, h.2⟩⟩⟩
theorem small_of {l : List S34} (hg : ∀ y ∈ l, GoodPage y) (hs : ∀ x ∈ l, x.f2.length ≤ 4096) : Small l := fun x hx => by
  obtain ⟨h1, _⟩ := hg x hx
  refine ⟨?_, hs x hx⟩
  simp only [Lit.wf, Bool.and_eq_true, decide_eq_true_iff] at h1
  have e1 : IntKind.u64.min = 0 := by rfl
  have e2 : IntKind.u64.max = 18446744073709551615 := by rfl
  unfold InR
  omega
theorem inr_of {a : Int} (h1 : (Lit.int .u64 a).wf = true) : InR a := by
  simp only [Lit.wf, Bool.and_eq_true, decide_eq_true_iff] at h1
  have e1 : IntKind.u64.min = 0 := by rfl
  have e2 : IntKind.u64.max = 18446744073709551615 := by rfl
  unfold InR
  omega
theorem read_eq {l : List S34} (hs : Small l) {a : Int} (ha : InR a) (m : Nat) (hm : m ≤ 4096) : readE l a m = (if (bytesAt l 4 m a).length = m then 0 else 120) ∧ readP l a m = (if (bytesAt l 4 m a).length = m then bytesAt l 4 m a else []) := by
  have hb := gatherP_bytes l a m 4 hs ha
  rw [Int.toNat_natCast] at hb
  have hle := bytesAt_le l 4 m a
  unfold readE readP
  rw [if_neg (show ¬ ((m : Int) < 0 ∨ (m : Int) > 4096) by omega), if_neg (show ¬ ((m : Int) < 0 ∨ (m : Int) > 4096) by omega), hb]
  by_cases h : (bytesAt l 4 m a).length = m
  · rw [if_neg (show ¬ ((bytesAt l 4 m a).length : Int) < (m : Int) by omega), if_neg (show ¬ ((bytesAt l 4 m a).length : Int) < (m : Int) by omega), if_pos h, if_pos h]; exact ⟨rfl, rfl⟩
  · rw [if_pos (show ((bytesAt l 4 m a).length : Int) < (m : Int) by omega), if_pos (show ((bytesAt l 4 m a).length : Int) < (m : Int) by omega), if_neg h, if_neg h]; exact ⟨rfl, rfl⟩
theorem same_refl (a : List Int) : sundiallaw12_same.f a a = some true := by unfold sundiallaw12_same.f; simp
end Go.Proofs.Ytkpkgpopmodagaa.B
