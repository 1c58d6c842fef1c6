/- Sets by steps: what the printed functions tell, in plain words. Sets by steps: put together, widened, cut: in plain words. A range over a function whose iterator may write its own boxes: what an iterator promises ('Iter'), and the statement's law ('wp_range'), at the fence that lets everything in. The parts of an address, one by one. A region that draws its order and hands values to a yield: an operation that tells its value in every world that meets a condition may be taken first (inside a fence). -/
import Derived.Test.YtpphcfkldhemeaaDoorWq8
import Derived.Test.YtpphcfkldhemeaaDoorWq9
import Derived.RangeFuncNested
import Derived.RangeFuncLeaves
import Derived.WalkKit
import Derived.OwnWalkIn
import Derived.TacticsInMore
import Derived.LoopNIn
import Derived.LoopIn
import Derived.Deep.Draws
import Derived.Stop.RegionWithIn
import Derived.OrdersIn
import Derived.OrdersHeld
namespace Go.Proofs.YtpphcfkldhemeaaDoor.B
open Go.RowKit Go.Proofs.YtpphcfkldhemeaaDoorW.PrintWords Go.Proofs.YtpphcfkldhemeaaDoorW.PrintLast Go.Proofs.YtpphcfkldhemeaaDoorW.PrintMore
set_option linter.unusedVariables false
set_option linter.unusedSimpArgs false
def Rg (x : Int) : Prop := 0 ≤ x ∧ x < 18446744073709551616
def Sm (s l h : Int) : Prop := 0 ≤ l ∧ h < 18446744073709551616 ∧ ((s = 0 ∧ l = h) ∨ (0 < s ∧ l < h ∧ s ∣ h - l))
def No (s l h : Int) : Prop := s = 0 ∧ l = 1 ∧ h = 0
theorem wrapU {x : Int} (h0 : 0 ≤ x) (h1 : x < 18446744073709551616) : IntKind.u64.wrap x = x := by
  rw [IntKind.wrap_u64]
  omega
theorem tmod0 (a b : Int) : ((Int.tmod a b) == 0) = decide (b ∣ a) := by
  rw [Bool.eq_iff_iff]
  simp only [beq_iff_eq, decide_eq_true_eq]
  exact (Int.dvd_iff_tmod_eq_zero).symm
theorem Sm.notNo {s l h : Int} (k : Sm s l h) : ¬ No s l h := by
  rintro ⟨rfl, rfl, rfl⟩
  obtain ⟨_, _, ⟨_, h⟩ | ⟨h, _⟩⟩ := k <;> omega
theorem Sm.rg {s l h : Int} (k : Sm s l h) : Rg s ∧ Rg l ∧ Rg h ∧ l ≤ h := by
  obtain ⟨h0, h1, ⟨rfl, rfl⟩ | ⟨hs, hl, hd⟩⟩ := k
  · exact ⟨⟨by omega, by decide⟩, ⟨h0, h1⟩, ⟨h0, h1⟩, by omega⟩
  · have := Int.le_of_dvd (by omega) hd
    exact ⟨⟨by omega, by omega⟩, ⟨h0, by omega⟩, ⟨by omega, h1⟩, by omega⟩
theorem right_f (s l h : Int) (hs : Rg s) (hl : Rg l) (hh : Rg h) : ∃ b, strided_Right.f s l h = some b ∧ (b = true ↔ No s l h ∨ Sm s l h) := by
  unfold strided_Right.f strided_None.f
  simp only [Option.bind_some]
  unfold Rg at hs hl hh
  by_cases h1 : (s == 0 && (l == 1 && (h == 0))) = true
  · rw [if_pos h1]
    simp only [Bool.and_eq_true, beq_iff_eq] at h1
    exact ⟨true, rfl, by simp [No, h1]⟩
  rw [if_neg h1]
  simp only [Bool.and_eq_true, beq_iff_eq] at h1
  by_cases h2 : s = 0
  · rw [if_pos h2]
    refine ⟨_, rfl, ?_⟩
    unfold No Sm
    simp only [beq_iff_eq]
    constructor
    · intro e; exact .inr ⟨hl.1, hh.2, .inl ⟨h2, e⟩⟩
    · rintro (e | ⟨_, _, ⟨_, e⟩ | ⟨e, _⟩⟩)
      · exact absurd e h1
      · exact e
      · omega
  rw [if_neg h2]
  by_cases h3 : l < h
  · rw [if_pos h3, tmod0, wrapU (by omega) (by omega)]
    refine ⟨_, rfl, ?_⟩
    unfold No Sm
    simp only [decide_eq_true_eq]
    constructor
    · intro e; exact .inr ⟨hl.1, hh.2, .inr ⟨by omega, h3, e⟩⟩
    · rintro (e | ⟨_, _, ⟨e, _⟩ | ⟨_, _, e⟩⟩)
      · omega
      · omega
      · exact e
  · rw [if_neg h3]
    refine ⟨false, rfl, ?_⟩
    unfold No Sm
    constructor
    · intro e; cases e
    · rintro (e | ⟨_, _, ⟨e, _⟩ | ⟨_, e, _⟩⟩) <;> omega
theorem refR_f (s l h : Int) : sundialref22_Right.f s l h = strided_Right.f s l h := rfl
theorem right_sm {s l h : Int} (k : Sm s l h) : strided_Right.f s l h = some true := by
  obtain ⟨h1, h2, h3, _⟩ := k.rg
  obtain ⟨b, hb, e⟩ := right_f s l h h1 h2 h3
  rw [hb, e.2 (.inr k)]
theorem some_sm {s l h : Int} (k : Sm s l h) : strided_some.f s l h = some true := by
  unfold strided_some.f
  rw [right_sm k]
  simp only [Option.bind_some, if_true, strided_None.f]
  have := k.notNo
  unfold No at this
  congr 1
  rw [Bool.eq_iff_iff]
  simp only [Bool.or_eq_true, Bool.not_eq_true', beq_eq_false_iff_ne, iff_true]
  by_cases a : s = 0
  · by_cases b : l = 1
    · exact .inr (.inr fun c => this ⟨a, b, c⟩)
    · exact .inr (.inl b)
  · exact .inl a
theorem some_no : strided_some.f 0 1 0 = some false := by decide
theorem seen_sm {s l h : Int} (k : Sm s l h) : strided_seen.f s l h = some (s, l, h) := by
  unfold strided_seen.f
  rw [right_sm k]
  rfl
theorem seen_no : strided_seen.f 0 1 0 = some (0, 1, 0) := by decide
def hasP (s l h x : Int) : Prop := l ≤ x ∧ x ≤ h ∧ s ∣ x - l
instance (s l h x : Int) : Decidable (hasP s l h x) := by unfold hasP; exact inferInstance
theorem has_sm {s l h x : Int} (k : Sm s l h) (hx : Rg x) : strided_Has.f s l h x = some (decide (hasP s l h x)) := by
  obtain ⟨h1, h2, h3, h4⟩ := k.rg
  unfold Rg at *
  unfold strided_Has.f hasP
  rw [some_sm k]
  simp only [Option.bind_some, if_true]
  by_cases a : x ≥ l
  · rw [if_pos a]
    by_cases b : x ≤ h
    · rw [if_pos b]
      by_cases c : x = l
      · rw [if_pos c]
        subst c
        congr 1
        exact (decide_eq_true ⟨a, b, by rw [Int.sub_self]; exact Int.dvd_zero _⟩).symm
      · rw [if_neg c]
        by_cases d : s > 0
        · rw [if_pos d, if_neg (by omega), tmod0, wrapU (by omega) (by omega)]
          congr 1
          simp [a, b]
        · rw [if_neg d]
          have hs : s = 0 := by omega
          subst hs
          congr 1
          refine (decide_eq_false ?_).symm
          rintro ⟨_, _, e⟩
          have := Int.zero_dvd.1 e
          omega
    · rw [if_neg b]; congr 1; exact (decide_eq_false fun e => b e.2.1).symm
  · rw [if_neg a]; congr 1; exact (decide_eq_false fun e => a e.1).symm
theorem has_no (x : Int) : strided_Has.f 0 1 0 x = some false := by
  unfold strided_Has.f
  rw [some_no]
  rfl
def inP (a b c d e f : Int) : Prop := e ≤ b ∧ c ≤ f ∧ d ∣ b - e ∧ d ∣ a
instance (a b c d e f : Int) : Decidable (inP a b c d e f) := by unfold inP; exact inferInstance
theorem dvd_high {s l h d e : Int} (k : Sm s l h) (h1 : d ∣ l - e) (h2 : d ∣ s) : d ∣ h - e := by
  have : h - e = (h - l) + (l - e) := by omega
  rw [this]
  obtain ⟨_, _, ⟨_, hl⟩ | ⟨_, _, hd⟩⟩ := k
  · subst hl; rw [Int.sub_self, Int.zero_add]; exact h1
  · exact Int.dvd_add (Int.dvd_trans h2 hd) h1
theorem in_sm {a b c d e f : Int} (k : Sm a b c) (m : Sm d e f) : strided_In.f a b c d e f = some (decide (inP a b c d e f)) := by
  obtain ⟨k1, k2, k3, k4⟩ := k.rg
  unfold strided_In.f
  rw [some_sm k, has_sm m k2, has_sm m k3]
  simp only [Option.bind_some, if_true]
  by_cases h1 : hasP d e f b
  · rw [if_pos (decide_eq_true h1)]
    by_cases h2 : hasP d e f c
    · rw [if_pos (decide_eq_true h2)]
      have hw : Rg (IntKind.u64.wrap (b + a)) := by rw [IntKind.wrap_u64]; unfold Rg; omega
      rw [has_sm m hw]
      simp only [Option.bind_some]
      have hsum : IntKind.u64.wrap (b + a) = b + a := by
        unfold Rg at *
        obtain ⟨_, _, ⟨rfl, _⟩ | ⟨h5, h6, h7⟩⟩ := k
        · rw [Int.add_zero]; exact wrapU (by omega) (by omega)
        · have := Int.le_of_dvd (by omega) h7
          exact wrapU (by omega) (by omega)
      rw [hsum]
      by_cases h3 : hasP d e f (b + a)
      · rw [if_pos (decide_eq_true h3)]
        by_cases hd : d = 0
        · rw [if_pos hd]
          congr 1
          refine (decide_eq_true ⟨h1.1, h2.2.1, h1.2.2, ?_⟩).symm
          subst hd
          have e1 := Int.zero_dvd.1 h1.2.2
          have e3 := Int.zero_dvd.1 h3.2.2
          have : a = 0 := by omega
          subst this; exact Int.dvd_zero _
        · rw [if_neg hd, tmod0]
          congr 1
          rw [Bool.eq_iff_iff]
          simp only [decide_eq_true_eq]
          exact ⟨fun h => ⟨h1.1, h2.2.1, h1.2.2, h⟩, fun h => h.2.2.2⟩
      · rw [if_neg (by simpa using h3)]
        congr 1
        refine (decide_eq_false ?_).symm
        rintro ⟨i1, i2, i3, i4⟩
        refine h3 ⟨?_, ?_, ?_⟩
        · unfold Rg at *; omega
        · obtain ⟨_, _, ⟨rfl, rfl⟩ | ⟨h5, h6, h7⟩⟩ := k
          · omega
          · have := Int.le_of_dvd (by omega) h7; omega
        · have : b + a - e = (b - e) + a := by omega
          rw [this]; exact Int.dvd_add i3 i4
    · rw [if_neg (by simpa using h2)]
      congr 1
      refine (decide_eq_false ?_).symm
      rintro ⟨i1, i2, i3, i4⟩
      exact h2 ⟨by omega, i2, dvd_high k i3 i4⟩
  · rw [if_neg (by simpa using h1)]
    congr 1
    refine (decide_eq_false ?_).symm
    rintro ⟨i1, i2, i3, i4⟩
    exact h1 ⟨i1, by omega, i3⟩
theorem in_no1 (d e f : Int) : strided_In.f 0 1 0 d e f = some true := by
  unfold strided_In.f
  rw [some_no]
  rfl
theorem in_no2 {a b c : Int} (k : Sm a b c) : strided_In.f a b c 0 1 0 = some false := by
  unfold strided_In.f
  rw [some_sm k]
  simp only [Option.bind_some, if_true]
  rw [has_no]
  rfl
end Go.Proofs.YtpphcfkldhemeaaDoor.B
namespace Go.Proofs.YtpphcfkldhemeaaDoor.B
open Go.RowKit Go.Proofs.YtpphcfkldhemeaaDoorW.PrintWords Go.Proofs.YtpphcfkldhemeaaDoorW.PrintLast Go.Proofs.YtpphcfkldhemeaaDoorW.PrintMore
set_option linter.unusedVariables false
set_option linter.unusedSimpArgs false
def gI (a b : Int) : Int := (Int.gcd a b : Int)
theorem gI_nonneg (a b : Int) : 0 ≤ gI a b := Int.natCast_nonneg _
theorem gI_left (a b : Int) : gI a b ∣ a := Int.gcd_dvd_left _ _
theorem gI_right (a b : Int) : gI a b ∣ b := Int.gcd_dvd_right _ _
theorem gI_dvd {t a b : Int} (h1 : t ∣ a) (h2 : t ∣ b) : t ∣ gI a b := Int.dvd_coe_gcd h1 h2
theorem gI_zero (a : Int) (h : 0 ≤ a) : gI a 0 = a := by
  unfold gI
  rw [Int.gcd_zero_right]
  omega
theorem dvd_anti {a b : Int} (ha : 0 ≤ a) (hb : 0 ≤ b) (h1 : a ∣ b) (h2 : b ∣ a) : a = b := Int.dvd_antisymm ha hb h1 h2
theorem gI_step (a b : Int) (ha : 0 ≤ a) (hb : 0 < b) : gI b (Int.tmod a b) = gI a b := by
  rw [Int.tmod_eq_emod_of_nonneg ha]
  have e := Int.emod_add_mul_ediv a b
  refine dvd_anti (gI_nonneg _ _) (gI_nonneg _ _) (gI_dvd ?_ (gI_left _ _)) (gI_dvd (gI_right _ _) ?_)
  · have h1 := gI_left b (a % b)
    have h2 := gI_right b (a % b)
    have : a = a % b + b * (a / b) := e.symm
    rw [this]
    have h3 : gI b (a % b) ∣ b * (a / b) := Int.dvd_mul_of_dvd_left h1
    rw [← this]
    have := Int.dvd_add h2 h3
    rwa [e] at this
  · have h1 := gI_left a b
    have h2 := gI_right a b
    have h3 : gI a b ∣ b * (a / b) := Int.dvd_mul_of_dvd_left h2
    have := Int.dvd_sub h1 h3
    have e2 : a - b * (a / b) = a % b := by omega
    rwa [e2] at this
theorem div_l1 (x7 : List Int) (x8 x9 : Int) : ∀ (n : Nat) (x0 x6 : Int), 0 ≤ x0 → 0 ≤ x6 → x6.toNat ≤ n → ∃ K, ∀ k, strided_divisor.l1 (k + K) x0 x6 x7 x8 x9 = strided_divisor.l0 k (gI x0 x6) x7 x8 (wrap64 (x9 + 1)) := by
  intro n
  induction n with
  | zero =>
    intro x0 x6 h0 h6 hn
    have : x6 = 0 := by omega
    subst this
    exact ⟨1, fun k => by rw [strided_divisor.l1, if_pos rfl, gI_zero x0 h0]⟩
  | succ n ih =>
    intro x0 x6 h0 h6 hn
    by_cases hz : x6 = 0
    · subst hz
      exact ⟨1, fun k => by rw [strided_divisor.l1, if_pos rfl, gI_zero x0 h0]⟩
    · have hm : Int.tmod x0 x6 = x0 % x6 := Int.tmod_eq_emod_of_nonneg h0
      have h1 : 0 ≤ x0 % x6 := Int.emod_nonneg _ hz
      have h2 : x0 % x6 < x6 := Int.emod_lt_of_pos _ (by omega)
      obtain ⟨K, hK⟩ := ih x6 (Int.tmod x0 x6) h6 (by omega) (by omega)
      refine ⟨K + 1, fun k => ?_⟩
      rw [← Nat.add_assoc, strided_divisor.l1, if_neg hz, hK k, gI_step x0 x6 h0 (by omega)]
theorem div_l0 (L : List Int) (hL : ∀ x ∈ L, 0 ≤ x) (hn : L.length ≤ 1000) : ∀ (m i : Nat) (x0 : Int), 0 ≤ x0 → L.length - i = m → i ≤ L.length → ∃ K, strided_divisor.l0 K x0 L (L.length : Int) (i : Int) = some ((L.drop i).foldl gI x0) := by
  intro m
  induction m with
  | zero =>
    intro i x0 h0 hm hi
    have : i = L.length := by omega
    subst this
    exact ⟨1, by rw [strided_divisor.l0, if_neg (by omega)]; simp⟩
  | succ m ih =>
    intro i x0 h0 hm hi
    have hlt : i < L.length := by omega
    have hx : rd L (i : Int) = L[i] := by unfold rd; simp [List.getD_eq_getElem?_getD, hlt]
    obtain ⟨K1, h1⟩ := div_l1 L (L.length : Int) (i : Int) L[i].toNat x0 L[i] h0 (hL _ (List.getElem_mem hlt)) (Nat.le_refl _)
    have hw : wrap64 ((i : Int) + 1) = ((i + 1 : Nat) : Int) := by unfold wrap64; omega
    obtain ⟨K2, h2⟩ := ih (i + 1) (gI x0 L[i]) (gI_nonneg _ _) (by omega) (by omega)
    refine ⟨K2 + K1 + 1, ?_⟩
    rw [strided_divisor.l0, if_pos (by omega), if_pos (by omega), if_pos (by omega), hx, h1 K2, hw, h2, List.drop_eq_getElem_cons hlt]
    rfl
theorem divisor_f (a : Int) (L : List Int) (ha : 0 ≤ a) (hL : ∀ x ∈ L, 0 ≤ x) (hn : L.length ≤ 1000) : ∃ K, strided_divisor.f K a L = some (L.foldl gI a) := by
  obtain ⟨K, h⟩ := div_l0 L hL hn L.length 0 a ha (by omega) (by omega)
  exact ⟨K, h⟩
def jS (a b d e : Int) : Int := gI (gI a d) (b - e)
theorem gI_sub (g b e : Int) (hg : 0 ≤ g) : gI (gI g (b - min b e)) (e - min b e) = gI g (b - e) := by
  have neg : ∀ x, gI g (-x) = gI g x := fun x => by unfold gI; rw [Int.gcd_neg]
  by_cases h : b ≤ e
  · rw [Int.min_eq_left h, Int.sub_self, gI_zero _ hg, ← neg (b - e)]
    congr 1
    omega
  · rw [Int.min_eq_right (by omega), Int.sub_self, gI_zero _ (gI_nonneg _ _)]
theorem mn_min (a b : Int) : mn a b = min a b := by unfold mn; omega
theorem mx_max (a b : Int) : mx a b = max a b := by unfold mx; omega
theorem join_sm {a b c d e f : Int} (k : Sm a b c) (m : Sm d e f) : ∃ K, strided_Join.f K a b c d e f = some (jS a b d e, min b e, max c f) := by
  obtain ⟨k1, k2, k3, k4⟩ := k.rg
  obtain ⟨m1, m2, m3, m4⟩ := m.rg
  unfold Rg at *
  have w1 : IntKind.u64.wrap (b - mn b e) = b - min b e := by rw [mn_min]; exact wrapU (by omega) (by omega)
  have w2 : IntKind.u64.wrap (e - mn b e) = e - min b e := by rw [mn_min]; exact wrapU (by omega) (by omega)
  obtain ⟨K, hK⟩ := divisor_f a [d, b - min b e, e - min b e] k1.1 (fun x hx => by
    simp only [List.mem_cons, List.not_mem_nil, or_false] at hx
    rcases hx with rfl | rfl | rfl <;> omega) (by simp)
  refine ⟨K, ?_⟩
  unfold strided_Join.f
  rw [some_sm k, some_sm m]
  simp only [Option.bind_some, if_true]
  rw [w1, w2, hK, mn_min, mx_max]
  simp only [Option.bind_some, List.foldl_cons, List.foldl_nil, gI_sub _ _ _ (gI_nonneg a d)]
  rfl
theorem join_no1 (d e f : Int) (k : Sm d e f) (K : Nat) : strided_Join.f K 0 1 0 d e f = some (d, e, f) := by
  unfold strided_Join.f
  rw [some_no]
  simp only [Option.bind_some, Bool.false_eq_true, if_false]
  rw [seen_sm k]
  rfl
theorem join_no2 (a b c : Int) (k : Sm a b c) (K : Nat) : strided_Join.f K a b c 0 1 0 = some (a, b, c) := by
  unfold strided_Join.f
  rw [some_sm k]
  simp only [Option.bind_some, if_true]
  rw [some_no]
  rfl
theorem join_no3 (K : Nat) : strided_Join.f K 0 1 0 0 1 0 = some (0, 1, 0) := by
  unfold strided_Join.f
  rw [some_no]
  simp only [Option.bind_some, Bool.false_eq_true, if_false]
  rw [seen_no]
  rfl
theorem jS_a (a b d e : Int) : jS a b d e ∣ a := Int.dvd_trans (gI_left _ _) (gI_left _ _)
theorem jS_d (a b d e : Int) : jS a b d e ∣ d := Int.dvd_trans (gI_left _ _) (gI_right _ _)
theorem jS_be (a b d e : Int) : jS a b d e ∣ b - e := gI_right _ _
theorem jS_nonneg (a b d e : Int) : 0 ≤ jS a b d e := gI_nonneg _ _
theorem neg_dvd' {t x y : Int} (h : t ∣ x - y) : t ∣ y - x := by
  have : y - x = -(x - y) := by omega
  rw [this]; exact Int.dvd_neg.2 h
theorem add_dvd' {t x y z : Int} (h1 : t ∣ x - y) (h2 : t ∣ y - z) : t ∣ x - z := by
  have : x - z = (x - y) + (y - z) := by omega
  rw [this]; exact Int.dvd_add h1 h2
theorem Sm.hl {s l h : Int} (k : Sm s l h) : s ∣ h - l := by
  obtain ⟨_, _, ⟨_, e⟩ | ⟨_, _, e⟩⟩ := k
  · subst e; rw [Int.sub_self]; exact Int.dvd_zero _
  · exact e
theorem Sm.zero {l h : Int} (k : Sm 0 l h) : l = h := by
  obtain ⟨_, _, ⟨_, e⟩ | ⟨e, _⟩⟩ := k
  · exact e
  · omega
theorem Sm.mk' {s l h : Int} (hs : 0 ≤ s) (h0 : 0 ≤ l) (hlh : l ≤ h) (h1 : h < 18446744073709551616) (hd : s ∣ h - l) (hne : l = h → s = 0) : Sm s l h := by
  refine ⟨h0, h1, ?_⟩
  by_cases hz : s = 0
  · subst hz
    have := Int.zero_dvd.1 hd
    exact .inl ⟨rfl, by omega⟩
  · exact .inr ⟨by omega, by by_cases e : l = h; exact absurd (hne e) hz; omega, hd⟩
theorem join_is {a b c d e f : Int} (k : Sm a b c) (m : Sm d e f) : Sm (jS a b d e) (min b e) (max c f) := by
  obtain ⟨k1, k2, k3, k4⟩ := k.rg
  obtain ⟨m1, m2, m3, m4⟩ := m.rg
  unfold Rg at *
  have d1 : jS a b d e ∣ c - b := Int.dvd_trans (jS_a a b d e) k.hl
  have d2 : jS a b d e ∣ f - e := Int.dvd_trans (jS_d a b d e) m.hl
  have d3 := jS_be a b d e
  refine Sm.mk' (jS_nonneg _ _ _ _) (by omega) (by omega) (by omega) ?_ ?_
  · have hc : jS a b d e ∣ c - min b e := by
      rcases Int.le_total b e with h | h
      · rw [Int.min_eq_left h]; exact d1
      · rw [Int.min_eq_right h]; exact add_dvd' d1 d3
    have hf : jS a b d e ∣ f - min b e := by
      rcases Int.le_total b e with h | h
      · rw [Int.min_eq_left h]; exact add_dvd' d2 (neg_dvd' d3)
      · rw [Int.min_eq_right h]; exact d2
    rcases Int.le_total c f with h | h
    · rw [Int.max_eq_right h]; exact hf
    · rw [Int.max_eq_left h]; exact hc
  · intro he
    have : a = 0 ∧ d = 0 ∧ b = e := by
      obtain ⟨_, _, ⟨ha, _⟩ | ⟨_, hb, _⟩⟩ := k
      · obtain ⟨_, _, ⟨hd, _⟩ | ⟨_, hb, _⟩⟩ := m
        · exact ⟨ha, hd, by omega⟩
        · omega
      · omega
    obtain ⟨rfl, rfl, rfl⟩ := this
    unfold jS
    rw [Int.sub_self]
    rfl
theorem in_refl {a b c : Int} (k : Sm a b c) : inP a b c a b c := ⟨Int.le_refl _, Int.le_refl _, by rw [Int.sub_self]; exact Int.dvd_zero _, Int.dvd_refl _⟩
theorem in_trans {a b c d e f g h i : Int} (x : inP a b c d e f) (y : inP d e f g h i) : inP a b c g h i :=
  ⟨Int.le_trans y.1 x.1, Int.le_trans x.2.1 y.2.1, add_dvd' (Int.dvd_trans y.2.2.2 x.2.2.1) y.2.2.1, Int.dvd_trans y.2.2.2 x.2.2.2⟩
theorem in_join1 {a b c d e f : Int} : inP a b c (jS a b d e) (min b e) (max c f) := by
  refine ⟨by omega, by omega, ?_, jS_a _ _ _ _⟩
  rcases Int.le_total b e with h | h
  · rw [Int.min_eq_left h, Int.sub_self]; exact Int.dvd_zero _
  · rw [Int.min_eq_right h]; exact jS_be _ _ _ _
theorem in_join2 {a b c d e f : Int} : inP d e f (jS a b d e) (min b e) (max c f) := by
  refine ⟨by omega, by omega, ?_, jS_d _ _ _ _⟩
  rcases Int.le_total b e with h | h
  · rw [Int.min_eq_left h]; exact neg_dvd' (jS_be _ _ _ _)
  · rw [Int.min_eq_right h, Int.sub_self]; exact Int.dvd_zero _
end Go.Proofs.YtpphcfkldhemeaaDoor.B
namespace Go.RF
open Go.RowKit
structure Keeps (S : Nat → Prop) (W W' : World) : Prop where
  os : W'.os = W.os
  tape : W'.tape = W.tape
  output : W'.output = W.output
  size : W.heap.size ≤ W'.heap.size
  block : ∀ k, k < W.heap.size → ¬ S k → W'.heap[k]? = W.heap[k]?
section
variable {S T : Nat → Prop} {W W1 W2 : World}
theorem Keeps.refl (S : Nat → Prop) (W : World) : Keeps S W W := ⟨rfl, rfl, rfl, Nat.le_refl _, fun _ _ _ => rfl⟩
theorem Keeps.trans (h : Keeps S W W1) (k : Keeps S W1 W2) : Keeps S W W2 :=
  ⟨k.os.trans h.os, k.tape.trans h.tape, k.output.trans h.output, Nat.le_trans h.size k.size, fun i hi hn => (k.block i (Nat.lt_of_lt_of_le hi h.size) hn).trans (h.block i hi hn)⟩
theorem Keeps.mono (h : Keeps S W W1) (hs : ∀ k, k < W.heap.size → S k → T k) : Keeps T W W1 :=
  ⟨h.os, h.tape, h.output, h.size, fun i hi hn => h.block i hi (fun k => hn (hs i hi k))⟩
theorem Keeps.of_below {B : Nat} (h : Below B W W1) (hS : ∀ k, k < W.heap.size → ¬ S k → k < B) : Keeps S W W1 := ⟨h.os, h.tape, h.output, h.size, fun i hi hn => h.block i (hS i hi hn)⟩
theorem Keeps.of_grown {row : Option Nat} (h : W.grownBy W1 row) (hS : ∀ k, row = some k → S k) : Keeps S W W1 :=
  ⟨h.os, h.tape, h.output, h.size, fun i hi hn => h.block i hi (fun e => hn (hS i e.symm))⟩
theorem Keeps.below {B : Nat} (h : Keeps S W W1) (hB : B ≤ W.heap.size) (hS : ∀ k, k < B → ¬ S k) : Below B W W1 := ⟨h.os, h.tape, h.output, h.size, fun i hi => h.block i (by omega) (hS i hi)⟩
theorem Keeps.alloc (h : Keeps S W W1) (o : Obj) : Keeps S W (W1.alloc o) :=
  h.trans (.of_grown (World.grownBy_alloc W1 o none) (fun _ e => by cases e))
theorem Keeps.setCell (h : Keeps S W W1) (a : Addr) (v : Value) (hS : S a.block) : Keeps S W (W1.setCell a v) :=
  h.trans (.of_grown (row := some a.block) ⟨rfl, rfl, rfl, by show W1.heap.size ≤ (W1.heap.modify _ _).size; simp, fun i hi hn => Below.heap_setCell W1 a v i (fun e => hn (by rw [e]))⟩ (fun k e => by cases e; exact hS))
theorem Keeps.drew (h : Keeps S W W1) : Keeps S W W1.drew := ⟨h.os, h.tape, h.output, h.size, h.block⟩
theorem Keeps.drewN (h : Keeps S W W1) (m : Nat) : Keeps S W (W1.drewN m) := ⟨h.os, h.tape, h.output, h.size, h.block⟩
theorem Keeps.putObj (h : Keeps S W W1) (l : Nat) (o : Obj) (hS : S l) : Keeps S W (W1.putObj l o) :=
  h.trans (.of_grown (grownBy_putObj' W1 l o) (fun k e => by cases e; exact hS))
theorem Keeps.cell (h : Keeps S W W1) {a : Addr} {v : Value} (hc : W.cell? a = some v) (hn : ¬ S a.block) : W1.cell? a = some v := by
  have hl := World.block_lt_of_cell? W a hc
  unfold World.cell? at hc ⊢
  rw [h.block _ hl hn]
  exact hc
theorem Keeps.at_ (h : Keeps S W W1) {k : Nat} {o : Obj} (hc : W.heap[k]? = some o) (hn : ¬ S k) : W1.heap[k]? = some o :=
  (h.block k (Array.getElem?_eq_some_iff.1 hc).1 hn).trans hc
end
def Stable {β : Type} (S : Nat → Prop) (J : β → World → Prop) : Prop := ∀ s W W', J s W → Keeps S W W' → J s W'
theorem Stable.mono {β : Type} {S T : Nat → Prop} {J : β → World → Prop} (h : Stable T J) (hs : ∀ k, S k → T k) : Stable S J := fun s W W' hj hk => h s W W' hj (hk.mono (fun k _ hS => hs k hS))
def Iter {α : Type} (P : Program) (g : Nat) (lb : Array Value) (encs : α → Array Value) (Q R : Nat → Prop) (L : List α) (W : World) : Prop :=
  ∀ (l : Nat) (J Jx : List α → World → Prop), Stable Q J → Stable Q Jx →
    (∀ pre x suf W1, L = pre ++ x :: suf → J pre W1 → YieldAt Fence.wide 0 P l (encs x) W1 fun e W2 =>
      (e = .returned (.bool true) ∧ J (pre ++ [x]) W2 ∧ Keeps (fun k => R k ∨ W.heap.size ≤ k) W1 W2) ∨ (e = .returned (.bool false) ∧ Jx (pre ++ [x]) W2)) →
    J [] W →
    CallsIn Fence.wide 0 P g (#[.func (.yield l) #[] #[]] ++ lb) W fun e W' => (∃ v, e = .returned v) ∧ (J L W' ∨ ∃ pre suf, L = pre ++ suf ∧ Jx pre W')
def roundEnd {α : Type} (S : Nat → Prop) (I : List α → World → Prop) (Ix : Code → List α → World → Prop) (xs : List α) (W : World) : Exit → Act → World → Prop
  | .normal, _, W' => Keeps S W W' ∧ I xs W'
  | .ret, _, W' => Keeps S W W' ∧ Ix .ret xs W'
  | .exit id, _, W' => Keeps S W W' ∧ Ix (.exit id) xs W'
  | .goto t, _, W' => Keeps S W W' ∧ Ix (.goto t) xs W'
  | .panic _, _, _ => False
  | .outgrown, _, _ => False
theorem wp_range {α : Type} {P : Program} {g : Operand} {ps : Array Tmp} {assign body : Code} {Q' : Exit → Act → World → Prop} {a : Act} {w : World}
    {gf : Nat} {lb : Array Value} (hg : a.eval g = .func (.func gf) #[] lb) (eg : ∀ args w, (callFunc gf args).run P w = .ok (.enter gf args) w)
    {encs : α → Array Value} {Q R : Nat → Prop} {L : List α} (hit : ∀ W, Keeps (fun _ => False) w W → Iter P gf lb encs Q R L W)
    (hQ : ∀ k, Q k → k < w.heap.size) (hR : ∀ k, R k → k < w.heap.size) (hps : ∀ x, (encs x).size = ps.size)
    (I : List α → World → Prop) (Ix : Code → List α → World → Prop) (hI : Stable (fun k => Q k ∨ k = w.heap.size ∨ k = w.heap.size + 1) I)
    (hIx : ∀ c, Stable (fun k => Q k ∨ k = w.heap.size ∨ k = w.heap.size + 1) (Ix c)) (h0 : I [] w) (a₁ : α → Act)
    (hassign : ∀ (l : Nat) (x : α) (W : World) (K : Act → World → Prop), K (a₁ x) W →
      assign.wpIn (Fence.wide.inRound l) 0 P (Exit.then K (fun _ _ _ => False)) { tmps := (ps.zip (encs x)).foldl (fun t (p, v) => t.setIfInBounds p v) a.tmps, defers := [] } W)
    (hbody : ∀ (l : Nat) (pre : List α) (x : α) (suf : List α) (W : World), L = pre ++ x :: suf → w.heap.size + 2 ≤ W.heap.size → I pre W →
      body.wpIn (Fence.wide.inRound l) 0 P (roundEnd (fun k => R k ∨ w.heap.size + 2 ≤ k) I Ix (pre ++ [x]) W) (a₁ x) W)
    (hdone : ∀ (W : World), I L W → W.heap[w.heap.size]? = some (.deferred (some [])) → Q' .normal { a with defers := { target := .collected w.heap.size, args := #[] } :: a.defers } W)
    (hstop : ∀ (c : Code) (pre suf : List α) (W : World), L = pre ++ suf → Ix c pre W → W.heap[w.heap.size]? = some (.deferred (some [])) →
      c.wpIn Fence.wide 0 P Q' { a with defers := { target := .collected w.heap.size, args := #[] } :: a.defers } W) :
    (Code.rangeFunc g ps assign body).wpIn Fence.wide 0 P Q' a w := by
  refine wpIn_rangeFunc ?_
  intro fn hfn
  obtain ⟨rec, hrec⟩ : ∃ rec : LoopState → Option Code → Loop, rec = fun st pe => { state := st, pending := pe, fn, tmps := a.tmps, params := ps, assign, body, defers := w.heap.size } := ⟨_, rfl⟩
  obtain ⟨W1, hW1⟩ : ∃ W1, (w.alloc (.deferred (some []))).alloc (.loop (rec .ready none)) = W1 := ⟨_, rfl⟩
  have hL1 : W1.heap[w.heap.size + 1]? = some (.loop (rec .ready none)) := by
    rw [← hW1]; have := World.alloc_heap_new (w.alloc (.deferred (some []))) (.loop (rec .ready none)); rwa [World.size_alloc] at this
  have hK1 : W1.heap[w.heap.size]? = some (.deferred (some [])) := by
    rw [← hW1]; exact (Below.heap_alloc _ _ _ (by simp)).trans (World.alloc_heap_new w _)
  have hs1 : W1.heap.size = w.heap.size + 2 := by rw [← hW1]; simp
  have hkp1 : Keeps (fun _ => False) w W1 := by rw [← hW1]; exact ((Keeps.refl _ w).alloc _).alloc _
  have hI1 : I [] W1 := hI _ _ _ h0 (hkp1.mono (fun _ _ h => h.elim))
  refine ⟨w.heap.size + 1, [{ target := .collected w.heap.size, args := #[] }], W1, { target := .fn (.func gf) lb, args := #[.func (.yield (w.heap.size + 1)) #[] #[]] }, W1, gf,
    #[.func (.yield (w.heap.size + 1)) #[] #[]] ++ lb, W1, ?_, ?_, ?_, ?_, fun h => by simp [Fence.wide] at h, ?_⟩
  · rw [← hW1, hrec]; exact run_enterLoop_outer _ _ _ _ _
  · simp only [resolve, hg]
    simp [go_sem]
  · intro f' _; trivial
  · simp [invoke, go_sem, eg]
  · have notQ : ∀ {k}, Q k → k ≠ w.heap.size ∧ k ≠ w.heap.size + 1 := fun h => by have := hQ _ h; omega
    refine (hit W1 hkp1 (w.heap.size + 1)
      (fun pre W => w.heap.size + 2 ≤ W.heap.size ∧ I pre W ∧ W.heap[w.heap.size + 1]? = some (.loop (rec .ready none)) ∧ W.heap[w.heap.size]? = some (.deferred (some [])))
      (fun pre W => ∃ c, Ix c pre W ∧ W.heap[w.heap.size + 1]? = some (.loop (rec .done (some c))) ∧ W.heap[w.heap.size]? = some (.deferred (some [])))
      (fun s A B hs hk => ⟨Nat.le_trans hs.1 hk.size, hI s A B hs.2.1 (hk.mono (fun k _ h => .inl h)), hk.at_ hs.2.2.1 (fun h => (notQ h).2 rfl), hk.at_ hs.2.2.2 (fun h => (notQ h).1 rfl)⟩)
      (fun s A B hs hk => by
        obtain ⟨c, hc, hl, hd⟩ := hs
        exact ⟨c, hIx c s A B hc (hk.mono (fun k _ h => .inl h)), hk.at_ hl (fun h => (notQ h).2 rfl), hk.at_ hd (fun h => (notQ h).1 rfl)⟩)
      ?_ ⟨by omega, hI1, hL1, hK1⟩).mono ?_
    · rintro pre x suf W hL ⟨hsz, hi, hl, hk⟩
      have hlt : w.heap.size + 1 < W.heap.size := by omega
      have hy := run_yield (P := P) (args := encs x) hl (by rw [hrec]; exact hps x)
      rw [hrec] at hy
      refine ⟨fn, _, assign, body, hy, roundIn_of_wpIn hfn (hassign _ x W _ ⟨_, run_beginRound hl (by rw [hrec]), ?_⟩)⟩
      have hl2 : (W.putObj (w.heap.size + 1) (.loop { rec .ready none with state := .busy })).heap[w.heap.size + 1]? = some (.loop { rec .ready none with state := .busy }) := World.putObj_heap_same hlt
      have hk2 : (W.putObj (w.heap.size + 1) (.loop { rec .ready none with state := .busy })).heap[w.heap.size]? = some (.deferred (some [])) := (World.putObj_heap_other (by omega)).trans hk
      have hw2 : ∀ (S : Nat → Prop), S (w.heap.size + 1) → Keeps S W (W.putObj (w.heap.size + 1) (.loop { rec .ready none with state := .busy })) := fun S hS => (Keeps.refl S W).putObj _ _ hS
      have notR : ∀ {k}, (R k ∨ w.heap.size + 2 ≤ k) → k ≠ w.heap.size ∧ k ≠ w.heap.size + 1 := fun h => by
        rcases h with h | h
        · have := hR _ h; omega
        · omega
      refine wpIn_mono (hbody _ pre x suf _ hL (by simp; omega) (hI _ _ _ hi (hw2 _ (.inr (.inr rfl))))) ?_
      have fin : ∀ (jump : Option Code) (W3 : World), Keeps (fun k => R k ∨ w.heap.size + 2 ≤ k) (W.putObj (w.heap.size + 1) (.loop { rec .ready none with state := .busy })) W3 →
          (Instr.endRound (w.heap.size + 1) jump).run P W3 = .ok (.bool jump.isNone) (W3.putObj (w.heap.size + 1) (.loop (rec (if jump.isNone then .ready else .done) jump))) ∧
          (W3.putObj (w.heap.size + 1) (.loop (rec (if jump.isNone then .ready else .done) jump))).heap[w.heap.size + 1]? = some (.loop (rec (if jump.isNone then .ready else .done) jump)) ∧
          (W3.putObj (w.heap.size + 1) (.loop (rec (if jump.isNone then .ready else .done) jump))).heap[w.heap.size]? = some (.deferred (some [])) ∧
          w.heap.size + 2 ≤ W3.heap.size := fun jump W3 hk3 => by
        have hl3 := hk3.at_ hl2 (fun h => (notR h).2 rfl)
        have hsz3 : w.heap.size + 2 ≤ W3.heap.size := by have := hk3.size; rw [World.putObj_size] at this; omega
        have := run_endRound (P := P) jump hl3
        rw [hrec] at this ⊢
        exact ⟨this, World.putObj_heap_same (by omega), (World.putObj_heap_other (by omega)).trans (hk3.at_ hk2 (fun h => (notR h).1 rfl)), hsz3⟩
      have hback : ∀ (W3 : World) (o : Obj), w.heap.size + 2 ≤ W3.heap.size → Keeps (fun k => Q k ∨ k = w.heap.size ∨ k = w.heap.size + 1) W3 (W3.putObj (w.heap.size + 1) o) := fun W3 o _ => (Keeps.refl _ W3).putObj _ _ (.inr (.inr rfl))
      rintro e a3 W3 hp
      cases e with
      | normal =>
        obtain ⟨hk3, hi3⟩ := hp
        obtain ⟨hr, hl4, hk4, hz⟩ := fin none W3 hk3
        have hc : ∀ k, R k ∨ w.heap.size + 2 ≤ k → (R k ∨ W1.heap.size ≤ k) := fun k h => by rw [hs1]; exact h
        refine ⟨_, _, hr, .inl ⟨rfl, ⟨by simp; omega, hI _ _ _ hi3 (hback _ _ hz), hl4, hk4⟩, ?_⟩⟩
        -- across the whole round the record is as it was
        refine ⟨hk3.os, hk3.tape, hk3.output, by have := hk3.size; simp at this ⊢; omega, fun k hk' hn => ?_⟩
        by_cases e : k = w.heap.size + 1
        · subst e; exact hl4.trans hl.symm
        · rw [World.putObj_heap_other e, hk3.block k (by simp; omega) (fun h => hn (hc k h)), World.putObj_heap_other e]
      | ret =>
        obtain ⟨hk3, hi3⟩ := hp
        obtain ⟨hr, hl4, hk4, hz⟩ := fin (some .ret) W3 hk3
        exact ⟨_, _, hr, .inr ⟨rfl, .ret, hIx _ _ _ _ hi3 (hback _ _ hz), hl4, hk4⟩⟩
      | exit id =>
        obtain ⟨hk3, hi3⟩ := hp
        obtain ⟨hr, hl4, hk4, hz⟩ := fin (some (.exit id)) W3 hk3
        exact ⟨_, _, hr, .inr ⟨rfl, .exit id, hIx _ _ _ _ hi3 (hback _ _ hz), hl4, hk4⟩⟩
      | goto t =>
        obtain ⟨hk3, hi3⟩ := hp
        obtain ⟨hr, hl4, hk4, hz⟩ := fin (some (.goto t)) W3 hk3
        exact ⟨_, _, hr, .inr ⟨rfl, .goto t, hIx _ _ _ _ hi3 (hback _ _ hz), hl4, hk4⟩⟩
      | panic ch => exact hp.elim
      | outgrown => exact hp.elim
    · have hback : ∀ (W3 : World) (o : Obj), Keeps (fun k => Q k ∨ k = w.heap.size ∨ k = w.heap.size + 1) W3 (W3.putObj (w.heap.size + 1) o) := fun W3 o => (Keeps.refl _ W3).putObj _ _ (.inr (.inr rfl))
      rintro e W2 ⟨⟨v, rfl⟩, (⟨_, hi, hl, hk⟩ | ⟨pre, suf, hL, c, hi, hl, hk⟩)⟩
      · exact ⟨none, _, by have := run_endLoop (P := P) hl (by rw [hrec]; simp); rw [hrec] at this; exact this, hdone _ (hI _ _ _ hi (hback _ _)) ((World.putObj_heap_other (by omega)).trans hk)⟩
      · exact ⟨some c, _, by have := run_endLoop (P := P) hl (by rw [hrec]; simp); rw [hrec] at this; exact this, hstop c pre suf _ hL (hIx c _ _ _ hi (hback _ _)) ((World.putObj_heap_other (by omega)).trans hk)⟩
theorem calls_of_marks {P : Program} {f : FuncId} {fn : Func} {c : Code} {args : Array Value} {w : World} {R : Ending → World → Prop} (hf : P.funcs[f]? = some fn) (hb : fn.body = some c)
    (h : c.wp P (bodyPostM Fence.wide 0 P fn R) { tmps := args ++ Array.replicate (fn.ntmps - args.size) undef, defers := [] } w) : Calls P f args w R :=
  (callsIn_wide (n := 0)).1 (callsIn_of_wp_marks hf hb trivial (wpIn_wide.2 h))
theorem leave_mark {P : Program} {fn : Func} {a : Act} {D : Nat} {W : World} {R : Ending → World → Prop} {v : Value} (hd : a.defers = [{ target := .collected D, args := #[] }]) (hK : W.heap[D]? = some (.deferred (some [])))
    (hr : (results fn a.tmps).run P (W.putObj D (.deferred none)) = .ok v (W.putObj D (.deferred none))) (h : R (.returned v) (W.putObj D (.deferred none))) : bodyPostM Fence.wide 0 P fn R .ret a W := by
  show LeavesInM Fence.wide 0 P fn a.tmps R a.defers .returning W
  rw [hd]
  exact ⟨by simp, .inl ⟨D, _, rfl, run_takeDeferred hK, ⟨v, hr, h⟩⟩⟩
theorem wp_range_plain {α : Type} {P : Program} {g : Operand} {ps : Array Tmp} {assign body : Code} {Q' : Exit → Act → World → Prop} {a : Act} {w : World}
    {gf : Nat} {lb : Array Value} (hg : a.eval g = .func (.func gf) #[] lb) (eg : ∀ args w, (callFunc gf args).run P w = .ok (.enter gf args) w)
    {encs : α → Array Value} {Q R : Nat → Prop} {L : List α} (hit : ∀ W, Keeps (fun _ => False) w W → Iter P gf lb encs Q R L W)
    (hQ : ∀ k, Q k → k < w.heap.size) (hR : ∀ k, R k → k < w.heap.size) (hps : ∀ x, (encs x).size = ps.size)
    (I : List α → World → Prop) (Ix : Code → List α → World → Prop) (hI : Stable (fun k => Q k ∨ k = w.heap.size ∨ k = w.heap.size + 1) I)
    (hIx : ∀ c, Stable (fun k => Q k ∨ k = w.heap.size ∨ k = w.heap.size + 1) (Ix c)) (h0 : I [] w) (a₁ : α → Act)
    (hassign : ∀ (l : Nat) (x : α) (W : World) (K : Act → World → Prop), K (a₁ x) W →
      assign.wpIn (Fence.wide.inRound l) 0 P (Exit.then K (fun _ _ _ => False)) { tmps := (ps.zip (encs x)).foldl (fun t (p, v) => t.setIfInBounds p v) a.tmps, defers := [] } W)
    (hbody : ∀ (l : Nat) (pre : List α) (x : α) (suf : List α) (W : World), L = pre ++ x :: suf → w.heap.size + 2 ≤ W.heap.size → I pre W →
      body.wpIn (Fence.wide.inRound l) 0 P (roundEnd (fun k => R k ∨ w.heap.size + 2 ≤ k) I Ix (pre ++ [x]) W) (a₁ x) W)
    (hdone : ∀ (W : World), I L W → W.heap[w.heap.size]? = some (.deferred (some [])) → Q' .normal { a with defers := { target := .collected w.heap.size, args := #[] } :: a.defers } W)
    (hstop : ∀ (c : Code) (pre suf : List α) (W : World), L = pre ++ suf → Ix c pre W → W.heap[w.heap.size]? = some (.deferred (some [])) →
      c.wp P Q' { a with defers := { target := .collected w.heap.size, args := #[] } :: a.defers } W) :
    (Code.rangeFunc g ps assign body).wp P Q' a w :=
  (wpIn_wide (n := 0)).1 (wp_range hg eg hit hQ hR hps I Ix hI hIx h0 a₁ hassign hbody hdone (fun c pre suf W hl hi hd => wpIn_wide.2 (hstop c pre suf W hl hi hd)))
end Go.RF
namespace Go.RF
open Go.RowKit
end Go.RF
namespace Go.RF
set_option linter.unusedVariables false
open Go.RowKit
section
variable {F : Fence} {n : Nat} {P : Program} {ops : Array Oper} {Q : Exit → Act → World → Prop} {md : Region.Mode} {S : World → Prop}
def Told (P : Program) (ops : Array Oper) (S : World → Prop) (o : Oper) (v : Value) (a : Act) : Prop := YieldsIf P ops S o v a ∧ ∀ w, o.about P w a.eval = none
theorem Told.same {o : Oper} {v : Value} {a b : Act} (hy : Told P ops S o v a) (he : execOp b.eval o = execOp a.eval o)
    (hw : Region.wanted o (yielded ops b.tmps) = Region.wanted o (yielded ops a.tmps)) (hb : ∀ w, o.about P w b.eval = o.about P w a.eval) : Told P ops S o v b :=
  ⟨hy.1.of_same he hw, fun w => (hb w).trans (hy.2 w)⟩
theorem Told.step {i : Nat} {o : Oper} {v : Value} {a : Act} (hro : F.round = none) (hi : ops[i]? = some o) (hy : Told P ops S o v a) {K : Act → World → Prop} {w : World} (hS : S w)
    (h : K (a.put o.dst v) w) : wpOpIn F n P ops Q i K a w := by
  unfold wpOpIn
  have hab : ∀ f, o.about P w a.eval = some f → F.fn f := fun f hf => by rw [hy.2 w] at hf; cases hf
  simp only [hi]
  rcases hy.1 with ⟨hw, hv⟩ | ⟨hw, rfl⟩
  · rw [if_pos hw]
    exact ⟨hab, by rw [hro, Oper.semAt_none, hv w hS]; exact h⟩
  · rw [if_neg (by rw [hw]; decide)]
    exact ⟨hab, h⟩
theorem step_past {j : Nat} {oi oj : Oper} {v : Value} (hro : F.round = none) (hj : ops[j]? = some oj) (hap : oi.apart ops oj = true) (hsi : ∀ cs b, oi.op ≠ .select cs b) (hsj : ∀ cs b, oj.op ≠ .select cs b)
    (hQ : ∀ c a w, Q (.panic c) (a.put oi.dst v) w → Q (.panic c) a w) {K : Act → World → Prop} {a : Act} {w : World} (hy : Told P ops S oi v a) (h : wpOpIn F n P ops Q j K (a.put oi.dst v) w) :
    wpOpIn F n P ops Q j (fun b w' => Told P ops S oi v b ∧ K (b.put oi.dst v) w') a w := by
  obtain ⟨h1, h2, h3⟩ := Oper.apart_spec hap
  have put : ∀ u, Told P ops S oi v (a.put oj.dst u) := fun u => hy.same (execOp_put oi hsi a oj.dst u h3) (wanted_put oi a oj.dst u h3) (fun w => about_put oi w a oj.dst u h3)
  have swap : ∀ u w', K ((a.put oi.dst v).put oj.dst u) w' → Told P ops S oi v (a.put oj.dst u) ∧ K ((a.put oj.dst u).put oi.dst v) w' := fun u w' hk => ⟨put u, by rw [← Act.put_comm a v u h2]; exact hk⟩
  unfold wpOpIn at h ⊢
  simp only [hj] at h ⊢
  rw [wanted_put oj a oi.dst v h1, about_put oj w a oi.dst v h1] at h
  by_cases hw : Region.wanted oj (yielded ops a.tmps) = true
  · rw [if_pos hw] at h ⊢
    unfold Oper.wpIn at h ⊢
    rw [about_put oj w a oi.dst v h1, hro, Oper.semAt_none, execOp_put oj hsj a oi.dst v h1] at h
    rw [hro, Oper.semAt_none]
    refine ⟨h.1, ?_⟩
    replace h := h.2
    generalize (execOp a.eval oj).run P w = r at h ⊢
    rcases r with ⟨x, w'⟩ | ⟨x, w'⟩
    · cases x with
      | value u => exact swap u w' h
      | skip => exact swap _ w' h
      | defer d =>
        have hd : Told P ops S oi v { a with defers := d :: a.defers } := hy.same rfl rfl (fun _ => rfl)
        refine ⟨hd.same (execOp_put oi hsi _ oj.dst undef h3) (wanted_put oi _ oj.dst undef h3) (fun w => about_put oi w _ oj.dst undef h3), ?_⟩
        rw [← Act.put_comm _ v undef h2, ← Act.put_defers]
        exact h
      | enter f args =>
        refine ⟨h.1, CallsIn.mono h.2 fun e w2 he => ?_⟩
        cases e with
        | returned u => exact swap u w2 he
        | panicked c => exact hQ _ _ _ he
        | outgrown => exact he
      | row row args => exact ⟨h.1, RowsIn.mono h.2 fun u w2 he => swap u w2 he⟩
      | round l f tmps assign body =>
        refine ⟨h.1, RoundIn.mono h.2 fun e w2 he => ?_⟩
        cases e with
        | returned u => exact swap u w2 he
        | panicked c => exact hQ _ _ _ he
        | outgrown => exact he
      | _ => exact h
    · cases x with
      | panic u => exact hQ _ _ _ h
      | _ => exact h
  · rw [if_neg hw] at h ⊢
    exact ⟨h.1, swap _ w h.2⟩
def AnyH (F : Fence) (n : Nat) (P : Program) (md : Region.Mode) (ops : Array Oper) (Q : Exit → Act → World → Prop) (S : World → Prop) : Nat → Array Bool → Act → World → Prop
  | 0, listed, a, w => Region.ready md ops listed = [] ∧ Q .normal a w
  | fuel + 1, listed, a, w => (Region.ready md ops listed = [] → Q .normal a w) ∧ ∀ i ∈ Region.ready md ops listed, wpOpIn F n P ops Q i (fun b w' => S w' ∧ AnyH F n P md ops Q S fuel (listed.setIfInBounds i true) b w') a w
theorem AnyH.any : ∀ (fuel : Nat) (listed : Array Bool) (a : Act) (w : World), AnyH F n P md ops Q S fuel listed a w → wpAnyIn F n P md ops Q fuel listed a w
  | 0, _, _, _, h => h
  | fuel + 1, _, _, _, h => ⟨h.1, fun i hi => wpOpIn_mono (fun b w' h' => AnyH.any fuel _ b w' h'.2) (h.2 i hi)⟩
theorem AnyH.first {i : Nat} {oi : Oper} {v : Value} (hro : F.round = none) (hi : ops[i]? = some oi) (hsel : ∀ (j : Nat) (o : Oper) cs b, ops[j]? = some o → o.op ≠ .select cs b) (hQ : ∀ c a w, Q (.panic c) (a.put oi.dst v) w → Q (.panic c) a w) :
    ∀ (fuel : Nat) (listed : Array Bool) (a : Act) (w : World),
      (∀ j oj, ops[j]? = some oj → j ≠ i → listed.getD j true = false → (∀ e ∈ oj.after, Region.binds md e = true → e.on ≠ i) → oi.apart ops oj = true) →
      i ∈ Region.ready md ops listed → Told P ops S oi v a → S w → AnyH F n P md ops Q S fuel (listed.setIfInBounds i true) (a.put oi.dst v) w → AnyH F n P md ops Q S (fuel + 1) listed a w := by
  intro fuel
  induction fuel with
  | zero =>
    intro listed a w _ hr hy hS H
    refine ⟨fun h => (by rw [h] at hr; cases hr), fun j hj => ?_⟩
    by_cases hji : j = i
    · subst hji; exact hy.step hro hi hS ⟨hS, H⟩
    · have := ready_mono hj hji
      rw [H.1] at this
      cases this
  | succ fuel ih =>
    intro listed a w hfree hr hy hS H
    refine ⟨fun h => (by rw [h] at hr; cases hr), fun j hj => ?_⟩
    by_cases hji : j = i
    · subst hji; exact hy.step hro hi hS ⟨hS, H⟩
    · obtain ⟨hjun, oj, hoj, hall⟩ := mem_ready.1 hj
      have hnot : ∀ e ∈ oj.after, Region.binds md e = true → e.on ≠ i := fun e he hb heq => by
        have h1 := hall e he hb
        have h0 := (mem_ready.1 hr).1
        rw [heq] at h1
        rw [Array.getD_eq_getD_getElem?] at h0 h1
        cases hx : listed[i]? <;> simp_all
      have hfree' : ∀ k ok, ops[k]? = some ok → k ≠ i → (listed.setIfInBounds j true).getD k true = false → (∀ e ∈ ok.after, Region.binds md e = true → e.on ≠ i) → oi.apart ops ok = true := fun k ok hk hki hun hno => by
        refine hfree k ok hk hki ?_ hno
        by_cases hjk : j = k
        · subst hjk; exact hjun
        · rw [getD_set_ne true hjk] at hun; exact hun
      refine wpOpIn_mono (fun b w' h3 => ⟨h3.2.1, ih (listed.setIfInBounds j true) b w' hfree' (ready_mono hr (Ne.symm hji)) h3.1 h3.2.1 ?_⟩) (step_past hro hoj (hfree j oj hoj hji hjun hnot) (fun cs b => hsel i oi cs b hi) (fun cs b => hsel j oj cs b hoj) hQ hy (H.2 j (ready_mono hj hji)))
      rw [Array.setIfInBounds_comm _ _ hji]
      exact h3.2.2
theorem AnyH.take {i : Nat} {oi : Oper} {v : Value} {fuel : Nat} {listed : Array Bool} {a : Act} {w : World} (hro : F.round = none) (hi : ops[i]? = some oi) (hs : Region.noSelect ops = true) (hf : Region.free md ops listed i = true)
    (hr : (Region.ready md ops listed).contains i = true) (hQ : ∀ c a w, Q (.panic c) (a.put oi.dst v) w → Q (.panic c) a w) (hy : Told P ops S oi v a) (hS : S w)
    (h : AnyH F n P md ops Q S fuel (listed.setIfInBounds i true) (a.put oi.dst v) w) : AnyH F n P md ops Q S (fuel + 1) listed a w :=
  AnyH.first hro hi (Region.noSelect_spec hs) hQ fuel listed a w (Region.free_spec hi hf) (by simpa using hr) hy hS h
theorem AnyH.one {i : Nat} {o : Oper} {fuel : Nat} {listed : Array Bool} {a : Act} {w : World} (hi : ops[i]? = some o) (hr : Region.ready md ops listed = [i]) (hw : Region.wanted o (yielded ops a.tmps) = true)
    (h : o.wpIn F n P a w (fun b w' => S w' ∧ AnyH F n P md ops Q S fuel (listed.setIfInBounds i true) b w') Q) : AnyH F n P md ops Q S (fuel + 1) listed a w := by
  refine ⟨fun h0 => (by rw [hr] at h0; cases h0), fun j hj => ?_⟩
  rw [hr] at hj
  obtain rfl := List.mem_singleton.1 hj
  unfold wpOpIn
  simp only [hi]
  rw [if_pos hw]
  exact h
theorem AnyH.done {listed : Array Bool} {a : Act} {w : World} (hr : Region.ready md ops listed = []) (h : Q .normal a w) : ∀ fuel, AnyH F n P md ops Q S fuel listed a w
  | 0 => ⟨hr, h⟩
  | _ + 1 => ⟨fun _ => h, by rw [hr]; simp⟩
end
end Go.RF
