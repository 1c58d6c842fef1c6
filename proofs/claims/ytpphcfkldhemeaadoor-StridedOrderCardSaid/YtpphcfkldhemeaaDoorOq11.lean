/- Sets by steps as triples: joined, cut, summed, and what may be said of that. Sets by steps: cut and summed. Sums of sets: both$1 tells what the plain sums tell. Sums of sets: Add and Sub. -/
import Derived.Test.YtpphcfkldhemeaaDoorOq7
import Derived.Test.YtpphcfkldhemeaaDoorOq10
namespace Go.Proofs.YtpphcfkldhemeaaDoor.B
open Go.RowKit
set_option linter.unusedVariables false
set_option linter.unusedSimpArgs false
abbrev T3 := Int × Int × Int
def none3 : T3 := (0, 1, 0)
def SmT (t : T3) : Prop := Sm t.1 t.2.1 t.2.2
def Ok (t : T3) : Prop := t = none3 ∨ SmT t
def noB (t : T3) : Bool := t.1 == 0 && (t.2.1 == 1 && (t.2.2 == 0))
theorem noB_iff {t : T3} : noB t = true ↔ t = none3 := by
  obtain ⟨a, b, c⟩ := t
  simp [noB, none3]
theorem SmT.no {t : T3} (h : SmT t) : noB t = false := by
  cases hn : noB t with
  | false => rfl
  | true =>
    rw [noB_iff] at hn
    subst hn
    exact absurd ⟨rfl, rfl, rfl⟩ h.notNo
theorem Ok.sm {t : T3} (h : Ok t) (hn : noB t = false) : SmT t := h.resolve_left fun e => by subst e; cases hn
def inT (a b : T3) : Bool := noB a || (!noB b && decide (inP a.1 a.2.1 a.2.2 b.1 b.2.1 b.2.2))
theorem in_f {a b : T3} (ha : Ok a) (hb : Ok b) : strided_In.f a.1 a.2.1 a.2.2 b.1 b.2.1 b.2.2 = some (inT a b) := by
  unfold inT
  cases hna : noB a with
  | true => rw [noB_iff] at hna; subst hna; exact in_no1 _ _ _
  | false =>
    have ka := ha.sm hna
    cases hnb : noB b with
    | true => rw [noB_iff] at hnb; subst hnb; exact in_no2 ka
    | false => exact in_sm ka (hb.sm hnb)
def joinT (a b : T3) : T3 := if noB a then b else if noB b then a else (jS a.1 a.2.1 b.1 b.2.1, min a.2.1 b.2.1, max a.2.2 b.2.2)
theorem join_f {a b : T3} (ha : Ok a) (hb : Ok b) : ∃ K, strided_Join.f K a.1 a.2.1 a.2.2 b.1 b.2.1 b.2.2 = some (joinT a b) := by
  unfold joinT
  cases hna : noB a with
  | true =>
    rw [noB_iff] at hna; subst hna
    cases hnb : noB b with
    | true => rw [noB_iff] at hnb; subst hnb; exact ⟨0, join_no3 0⟩
    | false => exact ⟨0, join_no1 _ _ _ (hb.sm hnb) 0⟩
  | false =>
    have ka := ha.sm hna
    cases hnb : noB b with
    | true => rw [noB_iff] at hnb; subst hnb; exact ⟨0, join_no2 _ _ _ ka 0⟩
    | false => exact join_sm ka (hb.sm hnb)
theorem join_ok {a b : T3} (ha : Ok a) (hb : Ok b) : Ok (joinT a b) := by
  unfold joinT
  cases hna : noB a with
  | true => exact hb
  | false =>
    cases hnb : noB b with
    | true => exact ha
    | false => exact .inr (join_is (ha.sm hna) (hb.sm hnb))
theorem join_no {a b : T3} (ha : Ok a) (hb : Ok b) (hna : noB a = false) (hnb : noB b = false) : noB (joinT a b) = false := by
  unfold joinT
  rw [hna, hnb]
  exact SmT.no (t := (jS a.1 a.2.1 b.1 b.2.1, min a.2.1 b.2.1, max a.2.2 b.2.2)) (join_is (ha.sm hna) (hb.sm hnb))
theorem inT_refl {a : T3} (ha : Ok a) : inT a a = true := by
  unfold inT
  cases hna : noB a with
  | true => rfl
  | false => simpa using in_refl (ha.sm hna)
theorem inT_iff {a b : T3} : inT a b = true ↔ (noB a = false → noB b = false ∧ inP a.1 a.2.1 a.2.2 b.1 b.2.1 b.2.2) := by
  unfold inT
  cases noB a <;> cases noB b <;> simp
theorem inT_trans {a b c : T3} (h : inT a b = true) (k : inT b c = true) : inT a c = true := by
  rw [inT_iff] at *
  intro hn
  obtain ⟨h1, h2⟩ := h hn
  obtain ⟨k1, k2⟩ := k h1
  exact ⟨k1, in_trans h2 k2⟩
theorem inT_anti {a b : T3} (ha : Ok a) (hb : Ok b) (h : inT a b = true) (k : inT b a = true) : a = b := by
  rw [inT_iff] at *
  cases hna : noB a with
  | true =>
    cases hnb : noB b with
    | true => rw [noB_iff] at hna hnb; rw [hna, hnb]
    | false => have := (k hnb).1; rw [hna] at this; cases this
  | false =>
    obtain ⟨h1, h2⟩ := h hna
    obtain ⟨k1, k2⟩ := k h1
    exact in_anti (ha.sm hna).rg.1.1 (hb.sm h1).rg.1.1 h2 k2
theorem inT_join1 {a b : T3} (ha : Ok a) (hb : Ok b) : inT a (joinT a b) = true := by
  cases hnb : noB b with
  | true =>
    cases hna : noB a with
    | true => rw [inT_iff]; intro h; rw [hna] at h; cases h
    | false => unfold joinT; rw [hna, hnb]; exact inT_refl ha
  | false =>
    rw [inT_iff]
    intro hna
    refine ⟨join_no ha hb hna hnb, ?_⟩
    unfold joinT
    rw [hna, hnb]
    exact in_join1
theorem inT_join2 {a b : T3} (ha : Ok a) (hb : Ok b) : inT b (joinT a b) = true := by
  cases hna : noB a with
  | true => unfold joinT; rw [hna]; exact inT_refl hb
  | false =>
    rw [inT_iff]
    intro hnb
    refine ⟨join_no ha hb hna hnb, ?_⟩
    unfold joinT
    rw [hna, hnb]
    exact in_join2
theorem inT_lub {a b c : T3} (ha : Ok a) (hb : Ok b) (h : inT a c = true) (k : inT b c = true) : inT (joinT a b) c = true := by
  cases hna : noB a with
  | true => unfold joinT; rw [hna]; exact k
  | false =>
    cases hnb : noB b with
    | true => unfold joinT; rw [hna, hnb]; exact h
    | false =>
      rw [inT_iff] at *
      intro _
      obtain ⟨h1, h2⟩ := h hna
      obtain ⟨-, k2⟩ := k hnb
      refine ⟨h1, ?_⟩
      unfold joinT
      rw [hna, hnb]
      exact join_in h2 k2
theorem joinT_assoc {a b c : T3} (ha : Ok a) (hb : Ok b) (hc : Ok c) : joinT (joinT a b) c = joinT a (joinT c b) := by
  have hab := join_ok ha hb
  have hcb := join_ok hc hb
  refine inT_anti (join_ok hab hc) (join_ok ha hcb) (inT_lub hab hc (inT_lub ha hb (inT_join1 ha hcb) (inT_trans (inT_join2 hc hb) (inT_join2 ha hcb))) (inT_trans (inT_join1 hc hb) (inT_join2 ha hcb))) ?_
  exact inT_lub ha hcb (inT_trans (inT_join1 ha hb) (inT_join1 hab hc)) (inT_lub hc hb (inT_join2 hab hc) (inT_trans (inT_join2 ha hb) (inT_join1 hab hc)))
theorem mask_ok (width : Int) : ∃ k : Nat, maskF width = 2 ^ k - 1 ∧ k ≤ 64 ∧ 8 ≤ k := by
  have h := wideN_lt width
  unfold maskF
  generalize wideN width = n at h
  obtain ⟨h1, h2⟩ := h
  refine ⟨8 * n, ?_, by omega, by omega⟩
  have : n = 1 ∨ n = 2 ∨ n = 3 ∨ n = 4 ∨ n = 5 ∨ n = 6 ∨ n = 7 ∨ n = 8 := by omega
  rcases this with rfl | rfl | rfl | rfl | rfl | rfl | rfl | rfl <;> rfl
end Go.Proofs.YtpphcfkldhemeaaDoor.B
namespace Go.Proofs.YtpphcfkldhemeaaDoor.B
open Go.RowKit
set_option linter.unusedVariables false
set_option linter.unusedSimpArgs false
theorem and_mask (k : Nat) (hk : k ≤ 64) (x : Int) (h0 : 0 ≤ x) (h1 : x < 18446744073709551616) : Go.bits .and .u64 x (2 ^ k - 1) = x % 2 ^ k := by
  obtain ⟨n, rfl⟩ : ∃ n : Nat, x = n := ⟨x.toNat, by omega⟩
  have hp : (2 : Nat) ^ k ≤ 2 ^ 64 := Nat.pow_le_pow_right (by decide) hk
  have hpos : 0 < (2 : Nat) ^ k := Nat.pow_pos (by decide)
  have e64 : (2 : Nat) ^ 64 = 18446744073709551616 := by decide
  have hm : ((2 : Int) ^ k - 1) = (((2 : Nat) ^ k - 1 : Nat) : Int) := by
    rw [Int.ofNat_sub hpos]; simp
  rw [hm]
  show IntKind.u64.wrap ((BitVec.ofInt 64 (n : Int) &&& BitVec.ofInt 64 (((2 : Nat) ^ k - 1 : Nat) : Int)).toNat : Int) = _
  simp only [BitVec.ofInt_natCast, BitVec.toNat_and, BitVec.toNat_ofNat]
  rw [Nat.mod_eq_of_lt (show n < 2 ^ 64 by omega), Nat.mod_eq_of_lt (show 2 ^ k - 1 < 2 ^ 64 by omega), Nat.and_two_pow_sub_one_eq_mod]
  have hlt : n % 2 ^ k ≤ n := Nat.mod_le _ _
  rw [wrapU (by omega) (by omega)]
  simp
structure MaskP (m : Int) : Prop where
  lo : 255 ≤ m
  hi : m < 18446744073709551616
  and_ : ∀ x, 0 ≤ x → x < 18446744073709551616 → Go.bits .and .u64 x m = x % (m + 1)
  dvd : (m + 1) ∣ 18446744073709551616
theorem maskP (width : Int) : MaskP (maskF width) := by
  obtain ⟨k, hk, h1, h2⟩ := mask_ok width
  have e : (2 : Int) ^ k - 1 + 1 = 2 ^ k := by omega
  have p1 : (2 : Int) ^ 8 ≤ 2 ^ k := by exact_mod_cast Nat.pow_le_pow_right (n := 2) (by decide) h2
  have p2 : (2 : Int) ^ k ≤ 2 ^ 64 := by exact_mod_cast Nat.pow_le_pow_right (n := 2) (by decide) h1
  have e1 : (2 : Int) ^ 8 = 256 := by decide
  have e2 : (2 : Int) ^ 64 = 18446744073709551616 := by decide
  rw [hk]
  refine ⟨by omega, by omega, fun x h0 h3 => ?_, ?_⟩
  · rw [e]; exact and_mask k h1 x h0 h3
  · rw [e, ← e2]
    exact ⟨2 ^ (64 - k), by rw [← Int.pow_add]; congr 1; omega⟩
def cutT (t : T3) (m : Int) : T3 := if noB t then t else if t.2.2 ≤ m then t else if t.1 = 0 then (0, t.2.1 % (m + 1), t.2.1 % (m + 1)) else (1, 0, m)
theorem cut_f {t : T3} (h : Ok t) (width : Int) : strided_Cut.f 1 t.1 t.2.1 t.2.2 width = some (cutT t (maskF width)) := by
  have hm := maskP width
  unfold strided_Cut.f cutT
  cases hn : noB t with
  | true =>
    rw [noB_iff] at hn; subst hn
    rfl
  | false =>
    have k := h.sm hn
    obtain ⟨⟨k1, k2⟩, ⟨k3, k4⟩, ⟨k5, k6⟩, k7⟩ := k.rg
    rw [seen_sm k]
    simp only [Option.bind_some, strided_None.f]
    have hn' : ¬ ((t.1 == 0 && (t.2.1 == 1 && (t.2.2 == 0))) = true) := by
      have := hn
      unfold noB at this
      rw [this]
      decide
    rw [if_neg hn']
    simp only [bits_Mask.f, G.Mask, Option.bind_some, strided_Cut.j0, Bool.false_eq_true, if_false]
    by_cases h1 : t.2.2 ≤ maskF width
    · rw [if_pos (decide_eq_true h1), if_pos h1]
    · rw [if_neg (by simpa using h1), if_neg h1]
      by_cases h2 : t.1 = 0
      · rw [if_pos h2, if_pos h2]
        simp only [bits_Cut.f, bits_Mask.f, G.Mask, Option.bind_some, strided_One.f]
        rw [hm.and_ _ k3 k4]
      · rw [if_neg h2, if_neg h2]
        simp only [strided_All.f, bits_Mask.f, G.Mask, Option.bind_some]
theorem one_ok {v : Int} (h0 : 0 ≤ v) (h1 : v < 18446744073709551616) : SmT (0, v, v) := ⟨h0, h1, .inl ⟨rfl, rfl⟩⟩
theorem all_ok {m : Int} (hm : MaskP m) : SmT (1, 0, m) := ⟨Int.le_refl 0, hm.hi, .inr ⟨Int.zero_lt_one, by have := hm.lo; show 0 < m; omega, Int.one_dvd _⟩⟩
theorem mod_rg {m x : Int} (hm : MaskP m) : 0 ≤ x % (m + 1) ∧ x % (m + 1) ≤ m := by
  have h1 := hm.lo
  have h2 := Int.emod_nonneg x (show m + 1 ≠ 0 by omega)
  have h3 := Int.emod_lt_of_pos x (show 0 < m + 1 by omega)
  omega
theorem cut_ok {t : T3} {m : Int} (h : Ok t) (hm : MaskP m) : Ok (cutT t m) := by
  unfold cutT
  cases hn : noB t with
  | true => exact h
  | false =>
    simp only [Bool.false_eq_true, if_false]
    by_cases h1 : t.2.2 ≤ m
    · rw [if_pos h1]; exact h
    · rw [if_neg h1]
      by_cases h2 : t.1 = 0
      · rw [if_pos h2]
        have := mod_rg hm (x := t.2.1)
        have := hm.hi
        exact .inr (one_ok (by omega) (by omega))
      · rw [if_neg h2]; exact .inr (all_ok hm)
def Fits (t : T3) (m : Int) : Prop := noB t = true ∨ t.2.2 ≤ m
theorem cut_fits {t : T3} {m : Int} (h : Ok t) (hm : MaskP m) : Fits (cutT t m) m := by
  unfold cutT
  cases hn : noB t with
  | true => exact .inl hn
  | false =>
    simp only [Bool.false_eq_true, if_false]
    by_cases h1 : t.2.2 ≤ m
    · rw [if_pos h1]; exact .inr h1
    · rw [if_neg h1]
      by_cases h2 : t.1 = 0
      · rw [if_pos h2]; exact .inr (mod_rg hm).2
      · rw [if_neg h2]; exact .inr (Int.le_refl _)
theorem cut_id {t : T3} {m : Int} (h : Fits t m) : cutT t m = t := by
  unfold cutT
  cases hn : noB t with
  | true => rfl
  | false =>
    rcases h with h | h
    · rw [hn] at h; cases h
    · simp only [Bool.false_eq_true, if_false]; rw [if_pos h]
theorem cut_cut {t : T3} {m : Int} (h : Ok t) (hm : MaskP m) : cutT (cutT t m) m = cutT t m := cut_id (cut_fits h hm)
theorem in_all {t : T3} {m : Int} (h : Ok t) (hf : Fits t m) (hm : MaskP m) : inT t (1, 0, m) = true := by
  rw [inT_iff]
  intro hn
  have k := h.sm hn
  refine ⟨(all_ok hm).no, k.rg.2.1.1, ?_, Int.one_dvd _, Int.one_dvd _⟩
  rcases hf with hf | hf
  · rw [hn] at hf; cases hf
  · exact hf
theorem single_eq {a b : T3} (ka : SmT a) (kb : SmT b) (h : inP a.1 a.2.1 a.2.2 b.1 b.2.1 b.2.2) (hb : b.1 = 0) : a = b := by
  obtain ⟨a0, a1, a2⟩ := a
  obtain ⟨b0, b1, b2⟩ := b
  have hb : b0 = 0 := hb
  subst hb
  have e := Sm.zero kb
  obtain ⟨h1, h2, h3, h4⟩ := h
  have h3 := Int.zero_dvd.1 h3
  have h4 := Int.zero_dvd.1 h4
  have := ka.rg.2.2.2
  simp only at *
  refine Prod.ext h4 (Prod.ext ?_ ?_) <;> simp only <;> omega
theorem no_of_in {a b : T3} (h : inT a b = true) (hb : noB b = true) : noB a = true := by
  cases hn : noB a with
  | true => rfl
  | false => have := (inT_iff.1 h hn).1; rw [hb] at this; cases this
theorem cut_mono {a b : T3} {m : Int} (ha : Ok a) (hb : Ok b) (hm : MaskP m) (h : inT a b = true) : inT (cutT a m) (cutT b m) = true := by
  cases hnb : noB b with
  | true =>
    have := no_of_in h hnb
    unfold cutT
    rw [this, hnb]
    exact h
  | false =>
    cases hna : noB a with
    | true => rw [show cutT a m = a by unfold cutT; rw [hna]; rfl, inT_iff]; intro h; rw [hna] at h; cases h
    | false =>
      have h' := (inT_iff.1 h hna).2
      by_cases h1 : b.2.2 ≤ m
      · rw [cut_id (.inr h1), cut_id (.inr (Int.le_trans h'.2.1 h1))]
        exact h
      · by_cases h2 : b.1 = 0
        · rw [single_eq (ha.sm hna) (hb.sm hnb) h' h2]
          exact inT_refl (cut_ok hb hm)
        · have : cutT b m = (1, 0, m) := by unfold cutT; rw [hnb, if_neg (by simp), if_neg h1, if_neg h2]
          rw [this]
          exact in_all (cut_ok ha hm) (cut_fits ha hm) hm
def sumT (v lo hi : Int) (fits : Prop) [Decidable fits] (a b : T3) (m : Int) : T3 :=
  if noB a then none3 else if noB b then none3 else if a.1 = 0 ∧ b.1 = 0 then (0, v, v) else if fits then (gI a.1 b.1, lo, hi) else (1, 0, m)
def addT (a b : T3) (m : Int) : T3 := sumT ((a.2.1 + b.2.1) % (m + 1)) (a.2.1 + b.2.1) (a.2.2 + b.2.2) (a.2.2 + b.2.2 ≤ m) a b m
def subT (a b : T3) (m : Int) : T3 := sumT ((a.2.1 - b.2.1) % (m + 1)) (a.2.1 - b.2.2) (a.2.2 - b.2.1) (b.2.2 ≤ a.2.1) a b m
theorem wide_of {a b : T3} (ka : SmT a) (kb : SmT b) (hz : ¬ (a.1 = 0 ∧ b.1 = 0)) : 0 < gI a.1 b.1 ∧ a.2.1 + b.2.1 < a.2.2 + b.2.2 ∧ gI a.1 b.1 ∣ (a.2.2 - a.2.1) + (b.2.2 - b.2.1) := by
  have r1 := ka.rg
  have r2 := kb.rg
  unfold Rg at r1 r2
  have h0 := gI_nonneg a.1 b.1
  have hne : gI a.1 b.1 ≠ 0 := fun e => hz ⟨by have := gI_left a.1 b.1; rw [e] at this; exact Int.zero_dvd.1 this, by have := gI_right a.1 b.1; rw [e] at this; exact Int.zero_dvd.1 this⟩
  refine ⟨by omega, ?_, Int.dvd_add (Int.dvd_trans (gI_left _ _) ka.hl) (Int.dvd_trans (gI_right _ _) kb.hl)⟩
  obtain ⟨_, _, ⟨h1, _⟩ | ⟨_, h1, _⟩⟩ := ka
  · obtain ⟨_, _, ⟨h2, _⟩ | ⟨_, h2, _⟩⟩ := kb
    · exact absurd ⟨h1, h2⟩ hz
    · omega
  · omega
theorem sum_sm {a b : T3} (ka : SmT a) (kb : SmT b) (hz : ¬ (a.1 = 0 ∧ b.1 = 0)) {lo hi : Int} (h0 : 0 ≤ lo) (h1 : hi < 18446744073709551616) (e : hi - lo = (a.2.2 - a.2.1) + (b.2.2 - b.2.1)) : SmT (gI a.1 b.1, lo, hi) := by
  obtain ⟨w1, w2, w3⟩ := wide_of ka kb hz
  exact ⟨h0, h1, .inr ⟨w1, by show lo < hi; omega, by show gI a.1 b.1 ∣ hi - lo; rw [e]; exact w3⟩⟩
theorem add_ok {a b : T3} {m : Int} (ha : Ok a) (hb : Ok b) (hm : MaskP m) : Ok (addT a b m) ∧ Fits (addT a b m) m := by
  unfold addT sumT
  cases hna : noB a with
  | true => exact ⟨.inl rfl, .inl rfl⟩
  | false =>
    cases hnb : noB b with
    | true => exact ⟨.inl rfl, .inl rfl⟩
    | false =>
      simp only [Bool.false_eq_true, if_false]
      have ka := ha.sm hna
      have kb := hb.sm hnb
      have r1 := ka.rg
      have r2 := kb.rg
      unfold Rg at r1 r2
      have hi := hm.hi
      by_cases hz : a.1 = 0 ∧ b.1 = 0
      · rw [if_pos hz]
        have := mod_rg hm (x := a.2.1 + b.2.1)
        exact ⟨.inr (one_ok (by omega) (by omega)), .inr this.2⟩
      · rw [if_neg hz]
        by_cases hf : a.2.2 + b.2.2 ≤ m
        · rw [if_pos hf]
          exact ⟨.inr (sum_sm ka kb hz (by omega) (by omega) (by omega)), .inr hf⟩
        · rw [if_neg hf]
          exact ⟨.inr (all_ok hm), .inr (Int.le_refl _)⟩
theorem sub_ok {a b : T3} {m : Int} (ha : Ok a) (hb : Ok b) (hfa : Fits a m) (hm : MaskP m) : Ok (subT a b m) ∧ Fits (subT a b m) m := by
  unfold subT sumT
  cases hna : noB a with
  | true => exact ⟨.inl rfl, .inl rfl⟩
  | false =>
    cases hnb : noB b with
    | true => exact ⟨.inl rfl, .inl rfl⟩
    | false =>
      simp only [Bool.false_eq_true, if_false]
      have ka := ha.sm hna
      have kb := hb.sm hnb
      have r1 := ka.rg
      have r2 := kb.rg
      unfold Rg at r1 r2
      have hi := hm.hi
      have hfa : a.2.2 ≤ m := by
        rcases hfa with h | h
        · rw [hna] at h; cases h
        · exact h
      by_cases hz : a.1 = 0 ∧ b.1 = 0
      · rw [if_pos hz]
        have := mod_rg hm (x := a.2.1 - b.2.1)
        exact ⟨.inr (one_ok (by omega) (by omega)), .inr this.2⟩
      · rw [if_neg hz]
        by_cases hf : b.2.2 ≤ a.2.1
        · rw [if_pos hf]
          exact ⟨.inr (sum_sm ka kb hz (by omega) (by omega) (by omega)), .inr (by show a.2.2 - b.2.1 ≤ m; omega)⟩
        · rw [if_neg hf]
          exact ⟨.inr (all_ok hm), .inr (Int.le_refl _)⟩
theorem gI_comm (a b : Int) : gI a b = gI b a := by unfold gI; rw [Int.gcd_comm]
theorem add_comm3 (a b : T3) (m : Int) : addT a b m = addT b a m := by
  unfold addT sumT
  rw [Int.add_comm a.2.1, Int.add_comm a.2.2, gI_comm a.1]
  cases noB a <;> cases noB b <;> simp [and_comm]
theorem mod_id {m x : Int} (h0 : 0 ≤ x) (h1 : x ≤ m) : x % (m + 1) = x := Int.emod_eq_of_lt h0 (by omega)
theorem gI_mono {a b c : Int} (h : b ∣ a) : gI b c ∣ gI a c := gI_dvd (Int.dvd_trans (gI_left _ _) h) (gI_right _ _)
theorem Fits.le {t : T3} {m : Int} (h : Fits t m) (hn : noB t = false) : t.2.2 ≤ m := by
  rcases h with h | h
  · rw [hn] at h; cases h
  · exact h
theorem add_mono {a b c : T3} {m : Int} (ha : Ok a) (hb : Ok b) (hc : Ok c) (fa : Fits a m) (fb : Fits b m) (fc : Fits c m) (hm : MaskP m) (h : inT a b = true) : inT (addT a c m) (addT b c m) = true := by
  cases hna : noB a with
  | true => rw [inT_iff]; intro hn; unfold addT sumT at hn; rw [hna] at hn; cases hn
  | false =>
  cases hnc : noB c with
  | true => rw [inT_iff]; intro hn; unfold addT sumT at hn; rw [hna, hnc] at hn; cases hn
  | false =>
  obtain ⟨hnb, hp⟩ := inT_iff.1 h hna
  have ka := ha.sm hna
  have kb := hb.sm hnb
  have kc := hc.sm hnc
  by_cases hz : b.1 = 0 ∧ c.1 = 0
  · rw [single_eq ka kb hp hz.1]
    exact inT_refl (add_ok hb hc hm).1
  · by_cases hf : b.2.2 + c.2.2 ≤ m
    · have e : addT b c m = (gI b.1 c.1, b.2.1 + c.2.1, b.2.2 + c.2.2) := by
        unfold addT sumT
        rw [hnb, hnc, if_neg (by simp), if_neg (by simp), if_neg hz, if_pos hf]
      have r1 := ka.rg
      have r2 := kb.rg
      have r3 := kc.rg
      unfold Rg at r1 r2 r3
      obtain ⟨p1, p2, p3, p4⟩ := hp
      rw [e, inT_iff]
      intro _
      refine ⟨SmT.no (t := (gI b.1 c.1, b.2.1 + c.2.1, b.2.2 + c.2.2)) (sum_sm kb kc hz (by omega) (by have := hm.hi; omega) (by omega)), ?_⟩
      have dl : gI b.1 c.1 ∣ (a.2.1 + c.2.1) - (b.2.1 + c.2.1) := by
        rw [show (a.2.1 + c.2.1) - (b.2.1 + c.2.1) = a.2.1 - b.2.1 by omega]
        exact Int.dvd_trans (gI_left _ _) p3
      unfold addT sumT
      rw [hna, hnc, if_neg (by simp), if_neg (by simp)]
      by_cases hz2 : a.1 = 0 ∧ c.1 = 0
      · rw [if_pos hz2, mod_id (by omega) (by omega)]
        exact ⟨by show b.2.1 + c.2.1 ≤ a.2.1 + c.2.1; omega, by show a.2.1 + c.2.1 ≤ b.2.2 + c.2.2; omega, dl, Int.dvd_zero _⟩
      · rw [if_neg hz2, if_pos (by omega)]
        exact ⟨by show b.2.1 + c.2.1 ≤ a.2.1 + c.2.1; omega, by show a.2.2 + c.2.2 ≤ b.2.2 + c.2.2; omega, dl, gI_mono p4⟩
    · have e : addT b c m = (1, 0, m) := by
        unfold addT sumT
        rw [hnb, hnc, if_neg (by simp), if_neg (by simp), if_neg hz, if_neg hf]
      rw [e]
      have := add_ok ha hc hm
      exact in_all this.1 this.2 hm
theorem sub_mono {a b c : T3} {m : Int} (ha : Ok a) (hb : Ok b) (hc : Ok c) (fa : Fits a m) (fb : Fits b m) (fc : Fits c m) (hm : MaskP m) (h : inT a b = true) : inT (subT a c m) (subT b c m) = true := by
  cases hna : noB a with
  | true => rw [inT_iff]; intro hn; unfold subT sumT at hn; rw [hna] at hn; cases hn
  | false =>
  cases hnc : noB c with
  | true => rw [inT_iff]; intro hn; unfold subT sumT at hn; rw [hna, hnc] at hn; cases hn
  | false =>
  obtain ⟨hnb, hp⟩ := inT_iff.1 h hna
  have ka := ha.sm hna
  have kb := hb.sm hnb
  have kc := hc.sm hnc
  by_cases hz : b.1 = 0 ∧ c.1 = 0
  · rw [single_eq ka kb hp hz.1]
    exact inT_refl (sub_ok hb hc fb hm).1
  · by_cases hf : c.2.2 ≤ b.2.1
    · have e : subT b c m = (gI b.1 c.1, b.2.1 - c.2.2, b.2.2 - c.2.1) := by
        unfold subT sumT
        rw [hnb, hnc, if_neg (by simp), if_neg (by simp), if_neg hz, if_pos hf]
      have r1 := ka.rg
      have r2 := kb.rg
      have r3 := kc.rg
      unfold Rg at r1 r2 r3
      have la := fa.le hna
      have lb := fb.le hnb
      obtain ⟨p1, p2, p3, p4⟩ := hp
      rw [e, inT_iff]
      intro _
      refine ⟨SmT.no (t := (gI b.1 c.1, b.2.1 - c.2.2, b.2.2 - c.2.1)) (sum_sm kb kc hz (by omega) (by have := hm.hi; omega) (by omega)), ?_⟩
      have dl : gI b.1 c.1 ∣ (a.2.1 - c.2.2) - (b.2.1 - c.2.2) := by
        rw [show (a.2.1 - c.2.2) - (b.2.1 - c.2.2) = a.2.1 - b.2.1 by omega]
        exact Int.dvd_trans (gI_left _ _) p3
      unfold subT sumT
      rw [hna, hnc, if_neg (by simp), if_neg (by simp)]
      by_cases hz2 : a.1 = 0 ∧ c.1 = 0
      · rw [if_pos hz2, mod_id (by omega) (by omega)]
        have ec : c.2.1 = c.2.2 := by have := kc; unfold SmT at this; rw [hz2.2] at this; exact this.zero
        refine ⟨by show b.2.1 - c.2.2 ≤ a.2.1 - c.2.1; omega, by show a.2.1 - c.2.1 ≤ b.2.2 - c.2.1; omega, ?_, Int.dvd_zero _⟩
        show gI b.1 c.1 ∣ (a.2.1 - c.2.1) - (b.2.1 - c.2.2)
        rw [ec]; exact dl
      · rw [if_neg hz2, if_pos (by omega)]
        exact ⟨by show b.2.1 - c.2.2 ≤ a.2.1 - c.2.2; omega, by show a.2.2 - c.2.1 ≤ b.2.2 - c.2.1; omega, dl, gI_mono p4⟩
    · have e : subT b c m = (1, 0, m) := by
        unfold subT sumT
        rw [hnb, hnc, if_neg (by simp), if_neg (by simp), if_neg hz, if_neg hf]
      rw [e]
      have := sub_ok ha hc fa hm
      exact in_all this.1 this.2 hm
end Go.Proofs.YtpphcfkldhemeaaDoor.B
namespace Go.Proofs.YtpphcfkldhemeaaDoor.B
open Go.RowKit Go.Proofs.YtpphcfkldhemeaaDoorW.PrintWords Go.Proofs.YtpphcfkldhemeaaDoorW.PrintMore Go.RF
set_option linter.unusedVariables false
set_option linter.unusedSimpArgs false
abbrev setT (t : T3) : Value := setV t.1 t.2.1 t.2.2
theorem of_total (x y z : Int) : ∃ r1 r2 r3, strided_Of.f x y z = some (r1, r2, r3) := by
  unfold strided_Of.f
  simp only [strided_None.f, strided_One.f, Option.bind_some]
  split
  · exact ⟨_, _, _, rfl⟩
  · split
    · exact ⟨_, _, _, rfl⟩
    · split <;> exact ⟨_, _, _, rfl⟩
theorem of_exact {lo hi s : Int} (h0 : 0 ≤ lo) (h1 : hi < 18446744073709551616) (hs : 0 < s) (hl : lo < hi) (hd : s ∣ hi - lo) : strided_Of.f lo hi s = some (s, lo, hi) := by
  have hle := Int.le_of_dvd (by omega) hd
  unfold strided_Of.f
  rw [if_neg (by omega), if_neg (by omega), wrapU (by omega) (by omega), if_neg (by omega), Int.dvd_iff_tmod_eq_zero.1 hd, Int.sub_zero, wrapU (by omega) h1]
theorem cutW {m : Int} (width x : Int) (hm : MaskP (maskF width)) : bits_Cut.f (IntKind.u64.wrap x) width = some (x % (maskF width + 1)) := by
  simp only [bits_Cut.f, bits_Mask.f, G.Mask, Option.bind_some]
  have h : 0 ≤ IntKind.u64.wrap x ∧ IntKind.u64.wrap x < 18446744073709551616 := by rw [IntKind.wrap_u64]; omega
  rw [hm.and_ _ h.1 h.2, IntKind.wrap_u64, Int.emod_emod_of_dvd _ hm.dvd]
theorem both_add (a b : T3) (ha : Ok a) (hb : Ok b) (width : Int) (bw bv bs : Nat) (bx : Nat) (w0 : World) (hT : Tab w0) (hbw : w0.heap[bw]? = some (.cells #[.int .i64 width] 3 (0, 0))) (hbv : w0.heap[bv]? = some (.cells #[.func (.func 33) #[] #[]] 51 (0, 0))) (hbs : w0.heap[bs]? = some (.cells #[.func (.func 34) #[] #[.pointer (some ⟨bx, 0, none⟩)]] 52 (0, 0))) (hbx : w0.heap[bx]? = some (.cells #[.int .i64 width] 3 (0, 0))) :
    Calls Tryd.prog 43 #[setT a, setT b, .pointer (some ⟨bw, 0, none⟩), .pointer (some ⟨bv, 0, none⟩), .pointer (some ⟨bs, 0, none⟩)] w0 fun e w' => e = .returned (setT (addT (cutT a (maskF width)) (cutT b (maskF width)) (maskF width))) ∧ Below w0.heap.size w0 w' := by
  have hm := maskP width
  have hc := cut_f ha width
  have hd := cut_f hb width
  have kc := cut_ok ha hm
  have kd := cut_ok hb hm
  have fc := cut_fits ha hm
  have fd := cut_fits hb hm
  generalize cutT a (maskF width) = c at *
  generalize cutT b (maskF width) = d at *
  cases hnc : noB c with
  | true =>
    have e : addT c d (maskF width) = (0, 1, 0) := by unfold addT sumT; rw [hnc]; rfl
    rw [e]
    rw [noB_iff] at hnc
    subst hnc
    exact add_both_n1 1 1 a.1 a.2.1 a.2.2 b.1 b.2.1 b.2.2 width d.1 d.2.1 d.2.2 bw bv bs bx w0 hT hbw hbv hbs hbx ⟨hc⟩ ⟨hd⟩
  | false =>
  cases hnd : noB d with
  | true =>
    have e : addT c d (maskF width) = (0, 1, 0) := by unfold addT sumT; rw [hnc, hnd]; rfl
    rw [e]
    rw [noB_iff] at hnd
    subst hnd
    exact add_both_n2 1 1 a.1 a.2.1 a.2.2 b.1 b.2.1 b.2.2 width c.1 c.2.1 c.2.2 bw bv bs bx w0 hT hbw hbv hbs hbx ⟨hc⟩ ⟨hd⟩ hnc
  | false =>
  have sc := kc.sm hnc
  have sd := kd.sm hnd
  have rc := sc.rg
  have rd := sd.rg
  unfold Rg at rc rd
  have lc := fc.le hnc
  have ld := fd.le hnd
  have hhi := hm.hi
  by_cases hz : c.1 = 0 ∧ d.1 = 0
  · have e : addT c d (maskF width) = (0, (c.2.1 + d.2.1) % (maskF width + 1), (c.2.1 + d.2.1) % (maskF width + 1)) := by
      unfold addT sumT; rw [hnc, hnd, if_neg (by simp), if_neg (by simp), if_pos hz]
    rw [e]
    obtain ⟨c0, c1, c2⟩ := c
    obtain ⟨d0, d1, d2⟩ := d
    obtain ⟨e1, e2⟩ := hz
    simp only at e1 e2
    subst e1 e2
    exact add_both_s 1 1 a.1 a.2.1 a.2.2 b.1 b.2.1 b.2.2 width c1 c2 d1 d2 _ bw bv bs bx w0 hT hbw hbv hbs hbx ⟨hc⟩ ⟨hd⟩ hnc hnd ⟨cutW (m := maskF width) width (c1 + d1) hm⟩
  have hz' : (c.1 == 0) = false ∨ (c.1 == 0) = true ∧ (d.1 == 0) = false := by
    by_cases h : c.1 = 0
    · exact .inr ⟨by simpa using h, by simpa using fun h2 => hz ⟨h, h2⟩⟩
    · exact .inl (by simpa using h)
  obtain ⟨v1, v2, v3⟩ := wide_of sc sd hz
  by_cases hf : c.2.2 + d.2.2 ≤ maskF width
  · have e : addT c d (maskF width) = (gI c.1 d.1, c.2.1 + d.2.1, c.2.2 + d.2.2) := by
      unfold addT sumT; rw [hnc, hnd, if_neg (by simp), if_neg (by simp), if_neg hz, if_pos hf]
    rw [e]
    refine add_both_t 1 1 a.1 a.2.1 a.2.2 b.1 b.2.1 b.2.2 width c.1 c.2.1 c.2.2 d.1 d.2.1 d.2.2 _ _ _ bw bv bs bx w0 hT hbw hbv hbs hbx ⟨hc⟩ ⟨hd⟩ hnc hnd hz' rc.1.1 rd.1.1 ?_ ?_
    · rw [wrapU (x := c.2.1 + d.2.1) (by omega) (by omega), wrapU (x := c.2.2 + d.2.2) (by omega) (by omega)]
      exact of_exact (by omega) (by omega) v1 (by omega) (by rw [show c.2.2 + d.2.2 - (c.2.1 + d.2.1) = c.2.2 - c.2.1 + (d.2.2 - d.2.1) by omega]; exact v3)
    · rw [wrapU (by omega) (by omega)]; exact decide_eq_true (by omega)
  · have e : addT c d (maskF width) = (1, 0, maskF width) := by
      unfold addT sumT; rw [hnc, hnd, if_neg (by simp), if_neg (by simp), if_neg hz, if_neg hf]
    rw [e]
    obtain ⟨r1, r2, r3, hof⟩ := of_total (IntKind.u64.wrap (c.2.1 + d.2.1)) (IntKind.u64.wrap (c.2.2 + d.2.2)) (gI c.1 d.1)
    refine add_both_f 1 1 a.1 a.2.1 a.2.2 b.1 b.2.1 b.2.2 width c.1 c.2.1 c.2.2 d.1 d.2.1 d.2.2 r1 r2 r3 bw bv bs bx w0 hT hbw hbv hbs hbx ⟨hc⟩ ⟨hd⟩ hnc hnd hz' rc.1.1 rd.1.1 hof ?_
    rw [wrapU (by omega) (by omega)]; exact decide_eq_false (by omega)
theorem both_sub (a b : T3) (ha : Ok a) (hb : Ok b) (width : Int) (bw bv bs : Nat) (w0 : World) (hT : Tab w0) (hbw : w0.heap[bw]? = some (.cells #[.int .i64 width] 3 (0, 0))) (hbv : w0.heap[bv]? = some (.cells #[.func (.func 36) #[] #[]] 51 (0, 0))) (hbs : w0.heap[bs]? = some (.cells #[.func (.func 37) #[] #[]] 52 (0, 0))) :
    Calls Tryd.prog 43 #[setT a, setT b, .pointer (some ⟨bw, 0, none⟩), .pointer (some ⟨bv, 0, none⟩), .pointer (some ⟨bs, 0, none⟩)] w0 fun e w' => e = .returned (setT (subT (cutT a (maskF width)) (cutT b (maskF width)) (maskF width))) ∧ Below w0.heap.size w0 w' := by
  have hm := maskP width
  have hc := cut_f ha width
  have hd := cut_f hb width
  have kc := cut_ok ha hm
  have kd := cut_ok hb hm
  have fc := cut_fits ha hm
  have fd := cut_fits hb hm
  generalize cutT a (maskF width) = c at *
  generalize cutT b (maskF width) = d at *
  cases hnc : noB c with
  | true =>
    have e : subT c d (maskF width) = (0, 1, 0) := by unfold subT sumT; rw [hnc]; rfl
    rw [e]
    rw [noB_iff] at hnc
    subst hnc
    exact sub_both_n1 1 1 a.1 a.2.1 a.2.2 b.1 b.2.1 b.2.2 width d.1 d.2.1 d.2.2 bw bv bs w0 hT hbw hbv hbs ⟨hc⟩ ⟨hd⟩
  | false =>
  cases hnd : noB d with
  | true =>
    have e : subT c d (maskF width) = (0, 1, 0) := by unfold subT sumT; rw [hnc, hnd]; rfl
    rw [e]
    rw [noB_iff] at hnd
    subst hnd
    exact sub_both_n2 1 1 a.1 a.2.1 a.2.2 b.1 b.2.1 b.2.2 width c.1 c.2.1 c.2.2 bw bv bs w0 hT hbw hbv hbs ⟨hc⟩ ⟨hd⟩ hnc
  | false =>
  have sc := kc.sm hnc
  have sd := kd.sm hnd
  have rc := sc.rg
  have rd := sd.rg
  unfold Rg at rc rd
  have lc := fc.le hnc
  have ld := fd.le hnd
  have hhi := hm.hi
  by_cases hz : c.1 = 0 ∧ d.1 = 0
  · have e : subT c d (maskF width) = (0, (c.2.1 - d.2.1) % (maskF width + 1), (c.2.1 - d.2.1) % (maskF width + 1)) := by
      unfold subT sumT; rw [hnc, hnd, if_neg (by simp), if_neg (by simp), if_pos hz]
    rw [e]
    obtain ⟨c0, c1, c2⟩ := c
    obtain ⟨d0, d1, d2⟩ := d
    obtain ⟨e1, e2⟩ := hz
    simp only at e1 e2
    subst e1 e2
    exact sub_both_s 1 1 a.1 a.2.1 a.2.2 b.1 b.2.1 b.2.2 width c1 c2 d1 d2 _ bw bv bs w0 hT hbw hbv hbs ⟨hc⟩ ⟨hd⟩ hnc hnd ⟨cutW (m := maskF width) width (c1 - d1) hm⟩
  have hz' : (c.1 == 0) = false ∨ (c.1 == 0) = true ∧ (d.1 == 0) = false := by
    by_cases h : c.1 = 0
    · exact .inr ⟨by simpa using h, by simpa using fun h2 => hz ⟨h, h2⟩⟩
    · exact .inl (by simpa using h)
  obtain ⟨v1, v2, v3⟩ := wide_of sc sd hz
  by_cases hf : d.2.2 ≤ c.2.1
  · have e : subT c d (maskF width) = (gI c.1 d.1, c.2.1 - d.2.2, c.2.2 - d.2.1) := by
      unfold subT sumT; rw [hnc, hnd, if_neg (by simp), if_neg (by simp), if_neg hz, if_pos hf]
    rw [e]
    refine sub_both_t 1 1 a.1 a.2.1 a.2.2 b.1 b.2.1 b.2.2 width c.1 c.2.1 c.2.2 d.1 d.2.1 d.2.2 _ _ _ bw bv bs w0 hT hbw hbv hbs ⟨hc⟩ ⟨hd⟩ hnc hnd hz' rc.1.1 rd.1.1 ?_ ?_
    · rw [wrapU (x := c.2.1 - d.2.2) (by omega) (by omega), wrapU (x := c.2.2 - d.2.1) (by omega) (by omega)]
      exact of_exact (by omega) (by omega) v1 (by omega) (by rw [show c.2.2 - d.2.1 - (c.2.1 - d.2.2) = c.2.2 - c.2.1 + (d.2.2 - d.2.1) by omega]; exact v3)
    · exact decide_eq_true (by omega)
  · have e : subT c d (maskF width) = (1, 0, maskF width) := by
      unfold subT sumT; rw [hnc, hnd, if_neg (by simp), if_neg (by simp), if_neg hz, if_neg hf]
    rw [e]
    obtain ⟨r1, r2, r3, hof⟩ := of_total (IntKind.u64.wrap (c.2.1 - d.2.2)) (IntKind.u64.wrap (c.2.2 - d.2.1)) (gI c.1 d.1)
    refine sub_both_f 1 1 a.1 a.2.1 a.2.2 b.1 b.2.1 b.2.2 width c.1 c.2.1 c.2.2 d.1 d.2.1 d.2.2 r1 r2 r3 bw bv bs w0 hT hbw hbv hbs ⟨hc⟩ ⟨hd⟩ hnc hnd hz' rc.1.1 rd.1.1 hof ?_
    exact decide_eq_false (by omega)
end Go.Proofs.YtpphcfkldhemeaaDoor.B
namespace Go.Proofs.YtpphcfkldhemeaaDoor.B
open Go.RowKit Go.Proofs.YtpphcfkldhemeaaDoorW.PrintWords Go.Proofs.YtpphcfkldhemeaaDoorW.PrintMore Go.RF
set_option linter.unusedVariables false
set_option linter.unusedSimpArgs false
def AdS (w0 : World) (g0 g1 g2 g3 g4 gv gs : Nat) (lbs A B R : Array Value) (width : Int) (X : Bool) (w : World) : Prop :=
  w.heap[g0]? = some (.cells A 24 (0, 0)) ∧ w.heap[g1]? = some (.cells B 24 (0, 0)) ∧ w.heap[g3]? = some (.cells R 24 (0, 0)) ∧ Tab w ∧ Below w0.heap.size w0 w ∧
  (lbs = #[] ∨ w.heap[g2]? = some (.cells #[.int .i64 width] 3 (0, 0))) ∧
  (match X with
   | false => w.heap.size = g4
   | true => w.heap[g4]? = some (.cells #[.int .i64 width] 3 (0, 0)) ∧ w.heap[g4 + 1]? = some (.cells #[.func (.func gv) #[] #[]] 51 (0, 0)) ∧ w.heap[g4 + 2]? = some (.cells #[.func (.func gs) #[] lbs] 52 (0, 0)))
section
variable {w0 : World} {g0 g1 g2 g3 g4 gv gs : Nat} {lbs A B R : Array Value} {width : Int} {w w' : World}
theorem AdS.met (h : AdS w0 g0 g1 g2 g3 g4 gv gs lbs A B R width true w) (hb : Below w.heap.size w w') : AdS w0 g0 g1 g2 g3 g4 gv gs lbs A B R width true w' :=
  ⟨heap_below hb h.1, heap_below hb h.2.1, heap_below hb h.2.2.1, h.2.2.2.1.below hb, below_step h.2.2.2.2.1 hb, h.2.2.2.2.2.1.imp id (heap_below hb), heap_below hb h.2.2.2.2.2.2.1, heap_below hb h.2.2.2.2.2.2.2.1, heap_below hb h.2.2.2.2.2.2.2.2⟩
theorem AdS.drew {X : Bool} (h : AdS w0 g0 g1 g2 g3 g4 gv gs lbs A B R width X w) : AdS w0 g0 g1 g2 g3 g4 gv gs lbs A B R width X { w with drawn := w.drawn + 1 } := by
  obtain ⟨h1, h2, h3, h4, h5, h6, h7⟩ := h
  exact ⟨h1, h2, h3, h4, bY_ h5, h6, h7⟩
theorem AdS.made (h : AdS w0 g0 g1 g2 g3 g4 gv gs lbs A B R width false w) (hb : Below w.heap.size w w') (k0 : w'.heap[w.heap.size]? = some (.cells #[.int .i64 width] 3 (0, 0))) (k1 : w'.heap[w.heap.size + 1]? = some (.cells #[.func (.func gv) #[] #[]] 51 (0, 0)))
    (k2 : w'.heap[w.heap.size + 2]? = some (.cells #[.func (.func gs) #[] lbs] 52 (0, 0))) : AdS w0 g0 g1 g2 g3 g4 gv gs lbs A B R width true w' := by
  obtain ⟨h1, h2, h3, h4, h5, h6, h7⟩ := h
  have h7 : w.heap.size = g4 := h7
  rw [h7] at k0 k1 k2
  exact ⟨heap_below hb h1, heap_below hb h2, heap_below hb h3, h4.below hb, below_step h5 hb, h6.imp id (heap_below hb), k0, k1, k2⟩
theorem AdS.stored {v0 v1 v2 : Value} (h : AdS w0 g0 g1 g2 g3 g4 gv gs lbs A B #[v0, v1, v2] width true w) (hg : 0 < w0.heap.size ∧ w0.heap.size ≤ g0 ∧ g0 < g1 ∧ g1 < g3 ∧ g2 ≠ g3 ∧ g3 < g4) (u0 u1 u2 : Value) :
    AdS w0 g0 g1 g2 g3 g4 gv gs lbs A B #[u0, u1, u2] width true (((w.setCell ⟨g3, 0, none⟩ u0).setCell ⟨g3, 1, none⟩ u1).setCell ⟨g3, 2, none⟩ u2) := by
  obtain ⟨h1, h2, h3, h4, h5, h6, h7, h8, h9⟩ := h
  exact ⟨heap_set3 h1 (by omega) _ _ _, heap_set3 h2 (by omega) _ _ _, (set3 h3 u0 u1 u2).1, tab_set3 h4 (by omega) _ _ _, bS_ (bS_ (bS_ h5 (by omega)) (by omega)) (by omega),
    h6.imp id (fun h => heap_set3 h (by omega) _ _ _), heap_set3 h7 (by omega) _ _ _, heap_set3 h8 (by omega) _ _ _, heap_set3 h9 (by omega) _ _ _⟩
end
set_option maxHeartbeats 8000000 in
set_option maxRecDepth 100000 in
theorem add_calls (a b : T3) (ha : Ok a) (hb : Ok b) (width : Int) (w0 : World) (hT : Tab w0) : Calls Tryd.prog 14 #[setT a, setT b, .int .i64 width] w0 fun e w' => e = .returned (setT (addT (cutT a (maskF width)) (cutT b (maskF width)) (maskF width))) ∧ Below w0.heap.size w0 w' := by
  obtain ⟨r, hr⟩ : ∃ r, addT (cutT a (maskF width)) (cutT b (maskF width)) (maskF width) = r := ⟨_, rfl⟩
  have HR_ := Aside0.mk hr
  have HA := Aside0.mk ha
  have HBB := Aside0.mk hb
  rw [hr]
  clear hr ha hb
  have hs0 : AdS w0 w0.heap.size (w0.heap.size + 1) (w0.heap.size + 2) (w0.heap.size + 3) (w0.heap.size + 4) 33 34 #[.pointer (some ⟨w0.heap.size + 2, 0, none⟩)] (setC a.1 a.2.1 a.2.2) (setC b.1 b.2.1 b.2.2) (setC 0 0 0) width false (((((w0).alloc (.cells (setC a.1 a.2.1 a.2.2) 24)).alloc (.cells (setC b.1 b.2.1 b.2.2) 24)).alloc (.cells #[.int .i64 width] 3)).alloc (.cells (setC 0 0 0) 24)) := by
    have hb : Below w0.heap.size w0 (((((w0).alloc (.cells (setC a.1 a.2.1 a.2.2) 24)).alloc (.cells (setC b.1 b.2.1 b.2.2) 24)).alloc (.cells #[.int .i64 width] 3)).alloc (.cells (setC 0 0 0) 24)) := bX_ (bX_ (bX_ (bX_ (Below.refl _ _) _) _) _) _
    have b0 := World.alloc_heap_new (w0) (.cells (setC a.1 a.2.1 a.2.2) 24)
    have b1 := World.alloc_heap_new ((w0).alloc (.cells (setC a.1 a.2.1 a.2.2) 24)) (.cells (setC b.1 b.2.1 b.2.2) 24)
    have b2 := World.alloc_heap_new (((w0).alloc (.cells (setC a.1 a.2.1 a.2.2) 24)).alloc (.cells (setC b.1 b.2.1 b.2.2) 24)) (.cells #[.int .i64 width] 3)
    have b3 := World.alloc_heap_new ((((w0).alloc (.cells (setC a.1 a.2.1 a.2.2) 24)).alloc (.cells (setC b.1 b.2.1 b.2.2) 24)).alloc (.cells #[.int .i64 width] 3)) (.cells (setC 0 0 0) 24)
    simp only [World.size_alloc] at b1 b2 b3
    have c0 := b0
    replace c0 := (Below.heap_alloc ((w0).alloc (.cells (setC a.1 a.2.1 a.2.2) 24)) (.cells (setC b.1 b.2.1 b.2.2) 24) w0.heap.size (by simp only [World.size_alloc]; omega)).trans c0
    replace c0 := (Below.heap_alloc (((w0).alloc (.cells (setC a.1 a.2.1 a.2.2) 24)).alloc (.cells (setC b.1 b.2.1 b.2.2) 24)) (.cells #[.int .i64 width] 3) w0.heap.size (by simp only [World.size_alloc]; omega)).trans c0
    replace c0 := (Below.heap_alloc ((((w0).alloc (.cells (setC a.1 a.2.1 a.2.2) 24)).alloc (.cells (setC b.1 b.2.1 b.2.2) 24)).alloc (.cells #[.int .i64 width] 3)) (.cells (setC 0 0 0) 24) w0.heap.size (by simp only [World.size_alloc]; omega)).trans c0
    have c1 := b1
    replace c1 := (Below.heap_alloc (((w0).alloc (.cells (setC a.1 a.2.1 a.2.2) 24)).alloc (.cells (setC b.1 b.2.1 b.2.2) 24)) (.cells #[.int .i64 width] 3) (w0.heap.size + 1) (by simp only [World.size_alloc]; omega)).trans c1
    replace c1 := (Below.heap_alloc ((((w0).alloc (.cells (setC a.1 a.2.1 a.2.2) 24)).alloc (.cells (setC b.1 b.2.1 b.2.2) 24)).alloc (.cells #[.int .i64 width] 3)) (.cells (setC 0 0 0) 24) (w0.heap.size + 1) (by simp only [World.size_alloc]; omega)).trans c1
    have c2 := b2
    replace c2 := (Below.heap_alloc ((((w0).alloc (.cells (setC a.1 a.2.1 a.2.2) 24)).alloc (.cells (setC b.1 b.2.1 b.2.2) 24)).alloc (.cells #[.int .i64 width] 3)) (.cells (setC 0 0 0) 24) (w0.heap.size + 2) (by simp only [World.size_alloc]; omega)).trans c2
    exact ⟨c0, c1, b3, hT.below hb, hb, .inr c2, by simp⟩
  have hlt := hT.lt
  have HS := Aside0.mk hs0
  clear hs0 hT
  go_enter Tryd.func14, Tryd.ntmps14
  go_upto_region 1 with (fail)
  generalize ((((w0).alloc (.cells (setC a.1 a.2.1 a.2.2) 24)).alloc (.cells (setC b.1 b.2.1 b.2.2) 24)).alloc (.cells #[.int .i64 width] 3)).alloc (.cells (setC 0 0 0) 24) = w1 at *
  obtain ⟨g0, hg0⟩ : ∃ g, w0.heap.size = g := ⟨_, rfl⟩
  have HG0 := Aside0.mk hg0
  obtain ⟨g4, hg4⟩ : ∃ g, w0.heap.size + 4 = g := ⟨_, rfl⟩
  obtain ⟨g1, hg1⟩ : ∃ g, w0.heap.size + 1 = g := ⟨_, rfl⟩
  obtain ⟨g2, hg2⟩ : ∃ g, w0.heap.size + 2 = g := ⟨_, rfl⟩
  obtain ⟨g3, hg3⟩ : ∃ g, w0.heap.size + 3 = g := ⟨_, rfl⟩
  have e2 : w0.heap.size + 1 + 1 = g2 := hg2
  have e3 : w0.heap.size + 1 + 1 + 1 = g3 := hg3
  (try rw [e3])
  (try rw [e2])
  (try rw [hg1])
  rw [hg4, hg3, hg2, hg1, hg0] at HS
  have HG := Aside0.mk (⟨hlt, by omega, by omega, by omega, by omega, by omega⟩ : 0 < w0.heap.size ∧ w0.heap.size ≤ g0 ∧ g0 < g1 ∧ g1 < g3 ∧ g2 ≠ g3 ∧ g3 < g4)
  (try rw [hg0])
  clear hg4 hlt hg1 hg2 hg3
  clear hg0
  clear e2
  clear e3
  refine RS.wp_events (by kernel_rfl) [(7, .int .i64 width), (8, .func (.func 34) #[] #[.pointer (some ⟨g2, 0, none⟩)]), (9, .func (.func 43) #[] #[.pointer (some ⟨g4, 0, none⟩), .pointer (some ⟨g4 + 1, 0, none⟩), .pointer (some ⟨g4 + 2, 0, none⟩)]), (10, setT a), (11, setT b), (12, setT r)] (fun f w => AdS w0 g0 g1 g2 g3 g4 33 34 #[.pointer (some ⟨g2, 0, none⟩)] (setC a.1 a.2.1 a.2.2) (setC b.1 b.2.1 b.2.2) (bif f 6 then setC r.1 r.2.1 r.2.2 else setC 0 0 0) width (f 2) w) (by kernel_rfl) (by kernel_rfl) (fun f hf => ?_) ?_ ?_
  · simp only [hf 2 (by decide), hf 6 (by decide), cond_false]
    exact HS.out.drew
  · exact ⟨RS.StepE.load 7 (.int .i64 width) (by kernel_rfl) (by kernel_rfl) rfl (fun f w h => h) (fun f w p1 p2 h => run_load rfl (by kernel_rfl) (load_num (i := 0) Tryd.underlying3 (h.2.2.2.2.2.1.resolve_left (by simp)) rfl)),
    RS.StepE.pure 8 (by kernel_rfl) rfl (fun w => by kernel_rfl) (fun f w h => h),
    RS.StepE.call 9 32 #[.int .i64 width, .func (.func 33) #[] #[], .func (.func 34) #[] #[.pointer (some ⟨g2, 0, none⟩)]] (.func (.func 43) #[] #[.pointer (some ⟨g4, 0, none⟩), .pointer (some ⟨g4 + 1, 0, none⟩), .pointer (some ⟨g4 + 2, 0, none⟩)]) (by kernel_rfl) (by kernel_rfl) rfl (fun w => by kernel_rfl) (fun g w h0 p1 p2 h => by
      have h0 : g 2 = false := h0
      have e6 : g 6 = false := p2 6 (by kernel_rfl) (by decide)
      simp only [h0, e6, cond_false] at h
      have hz : w.heap.size = g4 := h.2.2.2.2.2.2
      refine (both_calls width 33 34 #[.pointer (some ⟨g2, 0, none⟩)] w).mono ?_
      rintro e w' ⟨rfl, k0, k1, k2, hb⟩
      refine ⟨by rw [hz], ?_⟩
      show AdS w0 g0 g1 g2 g3 g4 33 34 #[.pointer (some ⟨g2, 0, none⟩)] (setC a.1 a.2.1 a.2.2) (setC b.1 b.2.1 b.2.2) (bif g 6 then _ else _) width true w'
      rw [e6]
      exact h.made hb k0 k1 k2),
    RS.StepE.load 10 (setT a) (by kernel_rfl) (by kernel_rfl) rfl (fun f w h => h) (fun f w p1 p2 h => run_load rfl (by kernel_rfl) (load_set h.1)),
    RS.StepE.load 11 (setT b) (by kernel_rfl) (by kernel_rfl) rfl (fun f w h => h) (fun f w p1 p2 h => run_load rfl (by kernel_rfl) (load_set h.2.1)),
    RS.StepE.call 12 43 #[setT a, setT b, .pointer (some ⟨g4, 0, none⟩), .pointer (some ⟨g4 + 1, 0, none⟩), .pointer (some ⟨g4 + 2, 0, none⟩)] (setT r) (by kernel_rfl) (by kernel_rfl) rfl (fun w => by kernel_rfl) (fun g w h0 p1 p2 h => by
      have e2 : g 2 = true := p1 2 (by kernel_rfl)
      have e6 : g 6 = false := p2 6 (by kernel_rfl) (by decide)
      simp only [e2, e6, cond_false] at h
      refine (both_add a b HA.out HBB.out width g4 (g4 + 1) (g4 + 2) g2 w h.2.2.2.1 h.2.2.2.2.2.2.1 h.2.2.2.2.2.2.2.1 h.2.2.2.2.2.2.2.2 (h.2.2.2.2.2.1.resolve_left (by simp))).mono ?_
      rintro e w' ⟨rfl, hb⟩
      refine ⟨by rw [HR_.out], ?_⟩
      show AdS w0 g0 g1 g2 g3 g4 33 34 #[.pointer (some ⟨g2, 0, none⟩)] (setC a.1 a.2.1 a.2.2) (setC b.1 b.2.1 b.2.2) (bif g 6 then _ else _) width (g 2) w'
      rw [e6, e2]
      exact h.met hb),
    RS.StepE.event (undef) (by intro d hd; cases hd) (by kernel_rfl) (fun g w h0 p1 p2 h => by
      have h0 : g 6 = false := h0
      have e2 : g 2 = true := p1 2 (by kernel_rfl)
      simp only [h0, e2, cond_false] at h
      refine ⟨_, .inr ⟨run_store_set (g := g3) (s := r.1) (l := r.2.1) (h := r.2.2) rfl (by kernel_rfl) (by kernel_rfl) h.2.2.1, rfl⟩, ?_⟩
      show AdS w0 g0 g1 g2 g3 g4 33 34 #[.pointer (some ⟨g2, 0, none⟩)] (setC a.1 a.2.1 a.2.2) (setC b.1 b.2.1 b.2.2) (setC r.1 r.2.1 r.2.2) width (g 2) _
      rw [e2]
      exact h.stored HG.out _ _ _), trivial⟩
  rintro f w2 hf hs
  simp only [hf, cond_true] at hs
  clear HS
  have HB := Aside0.mk hs.2.2.2.2.1
  have HR := Aside0.mk hs.2.2.1
  clear hs
  (try simp only [RS.sets, List.setIfInBounds_toArray, List.set_cons_zero, List.set_cons_succ])
  have hu24 := Tryd.underlying24
  go_wp2_with fail
  refine bodyPost_ret (results_cell rfl _ _ g3 24 _ (0, 0) _ rfl HR.out Tryd.underlying24 rfl (by kernel_rfl)) rfl ⟨rfl, HB.out⟩
set_option maxHeartbeats 8000000 in
set_option maxRecDepth 100000 in
theorem sub_calls (a b : T3) (ha : Ok a) (hb : Ok b) (width : Int) (w0 : World) (hT : Tab w0) : Calls Tryd.prog 15 #[setT a, setT b, .int .i64 width] w0 fun e w' => e = .returned (setT (subT (cutT a (maskF width)) (cutT b (maskF width)) (maskF width))) ∧ Below w0.heap.size w0 w' := by
  obtain ⟨r, hr⟩ : ∃ r, subT (cutT a (maskF width)) (cutT b (maskF width)) (maskF width) = r := ⟨_, rfl⟩
  have HR_ := Aside0.mk hr
  have HA := Aside0.mk ha
  have HBB := Aside0.mk hb
  rw [hr]
  clear hr ha hb
  have hs0 : AdS w0 w0.heap.size (w0.heap.size + 1) w0.heap.size (w0.heap.size + 2) (w0.heap.size + 3) 36 37 #[] (setC a.1 a.2.1 a.2.2) (setC b.1 b.2.1 b.2.2) (setC 0 0 0) width false ((((w0).alloc (.cells (setC a.1 a.2.1 a.2.2) 24)).alloc (.cells (setC b.1 b.2.1 b.2.2) 24)).alloc (.cells (setC 0 0 0) 24)) := by
    have hb : Below w0.heap.size w0 ((((w0).alloc (.cells (setC a.1 a.2.1 a.2.2) 24)).alloc (.cells (setC b.1 b.2.1 b.2.2) 24)).alloc (.cells (setC 0 0 0) 24)) := bX_ (bX_ (bX_ (Below.refl _ _) _) _) _
    have b0 := World.alloc_heap_new (w0) (.cells (setC a.1 a.2.1 a.2.2) 24)
    have b1 := World.alloc_heap_new ((w0).alloc (.cells (setC a.1 a.2.1 a.2.2) 24)) (.cells (setC b.1 b.2.1 b.2.2) 24)
    have b2 := World.alloc_heap_new (((w0).alloc (.cells (setC a.1 a.2.1 a.2.2) 24)).alloc (.cells (setC b.1 b.2.1 b.2.2) 24)) (.cells (setC 0 0 0) 24)
    simp only [World.size_alloc] at b1 b2
    have c0 := b0
    replace c0 := (Below.heap_alloc ((w0).alloc (.cells (setC a.1 a.2.1 a.2.2) 24)) (.cells (setC b.1 b.2.1 b.2.2) 24) w0.heap.size (by simp only [World.size_alloc]; omega)).trans c0
    replace c0 := (Below.heap_alloc (((w0).alloc (.cells (setC a.1 a.2.1 a.2.2) 24)).alloc (.cells (setC b.1 b.2.1 b.2.2) 24)) (.cells (setC 0 0 0) 24) w0.heap.size (by simp only [World.size_alloc]; omega)).trans c0
    have c1 := b1
    replace c1 := (Below.heap_alloc (((w0).alloc (.cells (setC a.1 a.2.1 a.2.2) 24)).alloc (.cells (setC b.1 b.2.1 b.2.2) 24)) (.cells (setC 0 0 0) 24) (w0.heap.size + 1) (by simp only [World.size_alloc]; omega)).trans c1
    exact ⟨c0, c1, b2, hT.below hb, hb, .inl rfl, by simp⟩
  have hlt := hT.lt
  have HS := Aside0.mk hs0
  clear hs0 hT
  go_enter Tryd.func15, Tryd.ntmps15
  go_upto_region 1 with (fail)
  generalize (((w0).alloc (.cells (setC a.1 a.2.1 a.2.2) 24)).alloc (.cells (setC b.1 b.2.1 b.2.2) 24)).alloc (.cells (setC 0 0 0) 24) = w1 at *
  obtain ⟨g0, hg0⟩ : ∃ g, w0.heap.size = g := ⟨_, rfl⟩
  have HG0 := Aside0.mk hg0
  obtain ⟨g4, hg4⟩ : ∃ g, w0.heap.size + 3 = g := ⟨_, rfl⟩
  obtain ⟨g1, hg1⟩ : ∃ g, w0.heap.size + 1 = g := ⟨_, rfl⟩
  obtain ⟨g3, hg3⟩ : ∃ g, w0.heap.size + 2 = g := ⟨_, rfl⟩
  have e2 : w0.heap.size + 1 + 1 = g3 := hg3
  (try rw [e2])
  (try rw [hg1])
  rw [hg4, hg3, hg1, hg0] at HS
  have HG := Aside0.mk (⟨hlt, by omega, by omega, by omega, by omega, by omega⟩ : 0 < w0.heap.size ∧ w0.heap.size ≤ g0 ∧ g0 < g1 ∧ g1 < g3 ∧ g0 ≠ g3 ∧ g3 < g4)
  (try rw [hg0])
  clear hg4 hlt hg1 hg3
  clear hg0
  clear e2
  refine RS.wp_events (by kernel_rfl) [(7, .int .i64 width), (8, .func (.func 43) #[] #[.pointer (some ⟨g4, 0, none⟩), .pointer (some ⟨g4 + 1, 0, none⟩), .pointer (some ⟨g4 + 2, 0, none⟩)]), (9, setT a), (10, setT b), (11, setT r)] (fun f w => AdS w0 g0 g1 g0 g3 g4 36 37 #[] (setC a.1 a.2.1 a.2.2) (setC b.1 b.2.1 b.2.2) (bif f 5 then setC r.1 r.2.1 r.2.2 else setC 0 0 0) width (f 1) w) (by kernel_rfl) (by kernel_rfl) (fun f hf => ?_) ?_ ?_
  · simp only [hf 1 (by decide), hf 5 (by decide), cond_false]
    exact HS.out.drew
  · exact ⟨RS.StepE.pure 7 (by kernel_rfl) rfl (fun w => by kernel_rfl) (fun f w h => h),
    RS.StepE.call 8 32 #[.int .i64 width, .func (.func 36) #[] #[], .func (.func 37) #[] #[]] (.func (.func 43) #[] #[.pointer (some ⟨g4, 0, none⟩), .pointer (some ⟨g4 + 1, 0, none⟩), .pointer (some ⟨g4 + 2, 0, none⟩)]) (by kernel_rfl) (by kernel_rfl) rfl (fun w => by kernel_rfl) (fun g w h0 p1 p2 h => by
      have h0 : g 1 = false := h0
      have e6 : g 5 = false := p2 5 (by kernel_rfl) (by decide)
      simp only [h0, e6, cond_false] at h
      have hz : w.heap.size = g4 := h.2.2.2.2.2.2
      refine (both_calls width 36 37 #[] w).mono ?_
      rintro e w' ⟨rfl, k0, k1, k2, hb⟩
      refine ⟨by rw [hz], ?_⟩
      show AdS w0 g0 g1 g0 g3 g4 36 37 #[] (setC a.1 a.2.1 a.2.2) (setC b.1 b.2.1 b.2.2) (bif g 5 then _ else _) width true w'
      rw [e6]
      exact h.made hb k0 k1 k2),
    RS.StepE.load 9 (setT a) (by kernel_rfl) (by kernel_rfl) rfl (fun f w h => h) (fun f w p1 p2 h => run_load rfl (by kernel_rfl) (load_set h.1)),
    RS.StepE.load 10 (setT b) (by kernel_rfl) (by kernel_rfl) rfl (fun f w h => h) (fun f w p1 p2 h => run_load rfl (by kernel_rfl) (load_set h.2.1)),
    RS.StepE.call 11 43 #[setT a, setT b, .pointer (some ⟨g4, 0, none⟩), .pointer (some ⟨g4 + 1, 0, none⟩), .pointer (some ⟨g4 + 2, 0, none⟩)] (setT r) (by kernel_rfl) (by kernel_rfl) rfl (fun w => by kernel_rfl) (fun g w h0 p1 p2 h => by
      have e2 : g 1 = true := p1 1 (by kernel_rfl)
      have e6 : g 5 = false := p2 5 (by kernel_rfl) (by decide)
      simp only [e2, e6, cond_false] at h
      refine (both_sub a b HA.out HBB.out width g4 (g4 + 1) (g4 + 2) w h.2.2.2.1 h.2.2.2.2.2.2.1 h.2.2.2.2.2.2.2.1 h.2.2.2.2.2.2.2.2).mono ?_
      rintro e w' ⟨rfl, hb⟩
      refine ⟨by rw [HR_.out], ?_⟩
      show AdS w0 g0 g1 g0 g3 g4 36 37 #[] (setC a.1 a.2.1 a.2.2) (setC b.1 b.2.1 b.2.2) (bif g 5 then _ else _) width (g 1) w'
      rw [e6, e2]
      exact h.met hb),
    RS.StepE.event (undef) (by intro d hd; cases hd) (by kernel_rfl) (fun g w h0 p1 p2 h => by
      have h0 : g 5 = false := h0
      have e2 : g 1 = true := p1 1 (by kernel_rfl)
      simp only [h0, e2, cond_false] at h
      refine ⟨_, .inr ⟨run_store_set (g := g3) (s := r.1) (l := r.2.1) (h := r.2.2) rfl (by kernel_rfl) (by kernel_rfl) h.2.2.1, rfl⟩, ?_⟩
      show AdS w0 g0 g1 g0 g3 g4 36 37 #[] (setC a.1 a.2.1 a.2.2) (setC b.1 b.2.1 b.2.2) (setC r.1 r.2.1 r.2.2) width (g 1) _
      rw [e2]
      exact h.stored HG.out _ _ _), trivial⟩
  rintro f w2 hf hs
  simp only [hf, cond_true] at hs
  clear HS
  have HB := Aside0.mk hs.2.2.2.2.1
  have HR := Aside0.mk hs.2.2.1
  clear hs
  (try simp only [RS.sets, List.setIfInBounds_toArray, List.set_cons_zero, List.set_cons_succ])
  have hu24 := Tryd.underlying24
  go_wp2_with fail
  refine bodyPost_ret (results_cell rfl _ _ g3 24 _ (0, 0) _ rfl HR.out Tryd.underlying24 rfl (by kernel_rfl)) rfl ⟨rfl, HB.out⟩
end Go.Proofs.YtpphcfkldhemeaaDoor.B
