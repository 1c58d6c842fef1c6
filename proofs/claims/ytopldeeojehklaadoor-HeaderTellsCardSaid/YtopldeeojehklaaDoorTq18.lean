/- The reference's Number, at, TakeSegment, TakeSection in plain words. The reference's Read in plain words: it is readP. HeaderTells tells true: the plain law. -/
import Derived.Test.YtopldeeojehklaaDoorTq14
import Derived.Test.YtopldeeojehklaaDoorTq17
import Derived.Test.YtopldeeojehklaaDoorTq6
import Derived.Test.YtopldeeojehklaaDoorTq13
import Derived.Test.YtopldeeojehklaaDoorTq15
import Derived.Test.YtopldeeojehklaaDoorTq16
import Derived.Test.YtopldeeojehklaaDoorTq12
namespace Go.Proofs.YtopldeeojehklaaDoor.B
open Go.RowKit Go.Proofs.YtopldeeojehklaaDoorW.PrintWords Go.Proofs.YtopldeeojehklaaDoorW.PrintMore Go.RF
set_option linter.unusedVariables false
set_option linter.unusedSimpArgs false
theorem rnum_l0 (xs : List Int) (hb : BB xs) (h8 : xs.length ≤ 8) : ∀ (d i k : Nat), i + d = xs.length → d + 1 ≤ k → sundialref01_Number.l0 k xs (numLE (xs.take i)) (i : Int) = some (numLE xs)
  | 0, i, k, hi, hk => by
    obtain ⟨k, rfl⟩ : ∃ m, k = m + 1 := ⟨k - 1, by omega⟩
    rw [sundialref01_Number.l0, if_neg (by omega), List.take_of_length_le (by omega)]
  | d + 1, i, k, hi, hk => by
    obtain ⟨k, rfl⟩ : ∃ m, k = m + 1 := ⟨k - 1, by omega⟩
    have e1 : wrap64 (8 * (i : Int)) = 8 * (i : Int) := by unfold wrap64; omega
    have e2 : IntKind.u64.wrap (8 * (i : Int)) = 8 * (i : Int) := wrapU (by omega) (by omega)
    have e3 : wrap64 ((i : Int) + 1) = ((i + 1 : Nat) : Int) := by unfold wrap64; omega
    have hg := hb.get i
    have er : rd xs (i : Int) = xs.getD i 0 := by unfold rd; rw [Int.toNat_natCast]
    have e4 : IntKind.u64.wrap (xs.getD i 0) = xs.getD i 0 := wrapU (by omega) (by omega)
    have e5 : shl .u64 (xs.getD i 0) (8 * (i : Int)) = xs.getD i 0 * 2 ^ (8 * i) := by
      unfold shl
      have : (8 * (i : Int)).toNat = 8 * i := by omega
      rw [this]
      have hm : min (8 * i) IntKind.u64.bits = 8 * i := by
        have : IntKind.u64.bits = 64 := rfl
        omega
      first | rw [hm] | skip
      exact shl_wrap _ i (by omega) hg.1 hg.2
    rw [sundialref01_Number.l0, if_pos (by omega), if_pos (by omega), if_pos (by omega), e1, e2, if_pos (by omega), er, e4, e5, e3, num_step xs hb i (by omega) h8]
    exact rnum_l0 xs hb h8 d (i + 1) k (by omega) (by omega)
theorem rnum (xs : List Int) (hb : BB xs) (h8 : xs.length ≤ 8) (k : Nat) (hk : 9 ≤ k) : sundialref01_Number.f k xs = some (numLE xs) := by
  unfold sundialref01_Number.f
  exact rnum_l0 xs hb h8 xs.length 0 k (by omega) (by omega)
theorem rat (xs : List Int) (hb : BB xs) (f : Nat × Nat) (h8 : f.2 ≤ 8) (hl : f.1 + f.2 ≤ xs.length) (hx : xs.length ≤ 1000000) (k : Nat) (hk : 9 ≤ k) : sundialref03_at.f k xs (f.1 : Int) (f.2 : Int) = some (fieldN xs f) := by
  have e1 : wrap64 ((f.1 : Int) + (f.2 : Int)) = ((f.1 + f.2 : Nat) : Int) := by unfold wrap64; omega
  unfold sundialref03_at.f
  rw [e1, if_pos (by omega), if_pos (by omega), if_pos (by omega), Int.toNat_natCast, Int.toNat_natCast]
  have e : (xs.take (f.1 + f.2)).drop f.1 = (xs.drop f.1).take f.2 := by rw [List.drop_take, Nat.add_sub_cancel_left]
  rw [e, rnum _ ((hb.drop _).take _) (by rw [List.length_take]; omega) k hk]
  rfl
theorem rtseg (xs : List Int) (hb : BB xs) (hx : xs.length ≤ 1000000) (k : Nat) (hk : 9 ≤ k) : sundialref03_TakeSegment.f k xs = some (takeSegP xs) := by
  unfold sundialref03_TakeSegment.f takeSegP
  by_cases h : xs.length < 56
  · rw [if_pos (by omega), if_pos h]
  · rw [if_neg (by omega), if_neg h]
    have r0 : sundialref03_at.f k xs 0 4 = some (fieldN xs (0, 4)) := rat xs hb (0, 4) (by decide) (by show 0 + 4 ≤ xs.length; omega) hx k hk
    have r1 : sundialref03_at.f k xs 4 4 = some (fieldN xs (4, 4)) := rat xs hb (4, 4) (by decide) (by show 4 + 4 ≤ xs.length; omega) hx k hk
    have r2 : sundialref03_at.f k xs 8 8 = some (fieldN xs (8, 8)) := rat xs hb (8, 8) (by decide) (by show 8 + 8 ≤ xs.length; omega) hx k hk
    have r3 : sundialref03_at.f k xs 16 8 = some (fieldN xs (16, 8)) := rat xs hb (16, 8) (by decide) (by show 16 + 8 ≤ xs.length; omega) hx k hk
    have r4 : sundialref03_at.f k xs 32 8 = some (fieldN xs (32, 8)) := rat xs hb (32, 8) (by decide) (by show 32 + 8 ≤ xs.length; omega) hx k hk
    have r5 : sundialref03_at.f k xs 40 8 = some (fieldN xs (40, 8)) := rat xs hb (40, 8) (by decide) (by show 40 + 8 ≤ xs.length; omega) hx k hk
    have r6 : sundialref03_at.f k xs 48 8 = some (fieldN xs (48, 8)) := rat xs hb (48, 8) (by decide) (by show 48 + 8 ≤ xs.length; omega) hx k hk
    rw [r0, Option.bind_some, r1, Option.bind_some, r2, Option.bind_some, r3, Option.bind_some, r4, Option.bind_some, r5, Option.bind_some, r6, Option.bind_some]
    rfl
theorem rtsec (xs : List Int) (hb : BB xs) (hx : xs.length ≤ 1000000) (k : Nat) (hk : 9 ≤ k) : sundialref03_TakeSection.f k xs = some (takeSecP xs) := by
  unfold sundialref03_TakeSection.f takeSecP
  by_cases h : xs.length < 64
  · rw [if_pos (by omega), if_pos h]
  · rw [if_neg (by omega), if_neg h]
    have r0 : sundialref03_at.f k xs 4 4 = some (fieldN xs (4, 4)) := rat xs hb (4, 4) (by decide) (by show 4 + 4 ≤ xs.length; omega) hx k hk
    have r1 : sundialref03_at.f k xs 24 8 = some (fieldN xs (24, 8)) := rat xs hb (24, 8) (by decide) (by show 24 + 8 ≤ xs.length; omega) hx k hk
    have r2 : sundialref03_at.f k xs 32 8 = some (fieldN xs (32, 8)) := rat xs hb (32, 8) (by decide) (by show 32 + 8 ≤ xs.length; omega) hx k hk
    have r3 : sundialref03_at.f k xs 40 4 = some (fieldN xs (40, 4)) := rat xs hb (40, 4) (by decide) (by show 40 + 4 ≤ xs.length; omega) hx k hk
    have r4 : sundialref03_at.f k xs 56 8 = some (fieldN xs (56, 8)) := rat xs hb (56, 8) (by decide) (by show 56 + 8 ≤ xs.length; omega) hx k hk
    rw [r0, Option.bind_some, r1, Option.bind_some, r2, Option.bind_some, r3, Option.bind_some, r4, Option.bind_some]
    rfl
theorem rj_true (m : Nat) (xs : List Int) (a b : Int) : sundialref03_right.j0 (m + 1) xs a b true = some false := by rw [sundialref03_right.j0, if_pos rfl]
theorem rj_false (k : Nat) (xs : List Int) (a b : Int) (ha : 0 ≤ a) (hb0 : 0 ≤ b) (hb : BB xs) (h : 64 ≤ xs.length) (hx : xs.length ≤ 1000000) (hk : 9 ≤ k) : sundialref03_right.j0 (k + 1) xs a b false = some (right0 a b (fieldN xs (54, 2)) (fieldN xs (58, 2))) := by
  have r5 : sundialref03_at.f k xs 54 2 = some (fieldN xs (54, 2)) := rat xs hb (54, 2) (by decide) (by show 54 + 2 ≤ xs.length; omega) hx k hk
  have r6 : sundialref03_at.f k xs 58 2 = some (fieldN xs (58, 2)) := rat xs hb (58, 2) (by decide) (by show 58 + 2 ≤ xs.length; omega) hx k hk
  rw [sundialref03_right.j0, if_neg (by decide), r5, r6]
  simp only [Option.bind_some]
  generalize fieldN xs (54, 2) = c
  generalize fieldN xs (58, 2) = d
  unfold right0
  by_cases e1 : a > 0
  · have n1 : (a == 0) = false := by simp; omega
    rw [if_pos e1, n1]
    by_cases e2 : c = 56
    · have n2 : (c == 56) = true := by simp [e2]
      rw [if_pos e2, n2]
      by_cases e3 : b > 0
      · have n3 : (b == 0) = false := by simp; omega
        rw [if_pos e3, n3]
        by_cases e4 : d = 64 <;> by_cases e5 : a ≤ 16 <;> simp [e4, e5]
      · have n3 : (b == 0) = true := by simp; omega
        rw [if_neg e3, n3]
        by_cases e5 : a ≤ 16 <;> simp [e5]
    · have n2 : (c == 56) = false := by simp [e2]
      rw [if_neg e2, n2]
      simp
  · have n1 : (a == 0) = true := by simp; omega
    rw [if_neg e1, n1]
    by_cases e3 : b > 0
    · have n3 : (b == 0) = false := by simp; omega
      rw [if_pos e3, n3]
      by_cases e4 : d = 64 <;> by_cases e5 : a ≤ 16 <;> simp [e4, e5]
    · have n3 : (b == 0) = true := by simp; omega
      rw [if_neg e3, n3]
      by_cases e5 : a ≤ 16 <;> simp [e5]
theorem rright (k : Nat) (xs : List Int) (hb : BB xs) (h : 64 ≤ xs.length) (hx : xs.length ≤ 1000000) (hk1 : 10 ≤ k) : sundialref03_right.f k xs = some (rightP xs) := by
  have hk : 9 ≤ k := by omega
  have r0 : sundialref03_at.f k xs 56 2 = some (fieldN xs (56, 2)) := rat xs hb (56, 2) (by decide) (by show 56 + 2 ≤ xs.length; omega) hx k hk
  have r1 : sundialref03_at.f k xs 60 2 = some (fieldN xs (60, 2)) := rat xs hb (60, 2) (by decide) (by show 60 + 2 ≤ xs.length; omega) hx k hk
  have r2 : sundialref03_at.f k xs 4 1 = some (fieldN xs (4, 1)) := rat xs hb (4, 1) (by decide) (by show 4 + 1 ≤ xs.length; omega) hx k hk
  have r3 : sundialref03_at.f k xs 5 1 = some (fieldN xs (5, 1)) := rat xs hb (5, 1) (by decide) (by show 5 + 1 ≤ xs.length; omega) hx k hk
  have r4 : sundialref03_at.f k xs 6 1 = some (fieldN xs (6, 1)) := rat xs hb (6, 1) (by decide) (by show 6 + 1 ≤ xs.length; omega) hx k hk
  have r5 : sundialref03_at.f k xs 16 2 = some (fieldN xs (16, 2)) := rat xs hb (16, 2) (by decide) (by show 16 + 2 ≤ xs.length; omega) hx k hk
  have r6 : sundialref03_at.f k xs 18 2 = some (fieldN xs (18, 2)) := rat xs hb (18, 2) (by decide) (by show 18 + 2 ≤ xs.length; omega) hx k hk
  have r7 : sundialref03_at.f k xs 20 4 = some (fieldN xs (20, 4)) := rat xs hb (20, 4) (by decide) (by show 20 + 4 ≤ xs.length; omega) hx k hk
  have r8 : sundialref03_at.f k xs 48 4 = some (fieldN xs (48, 4)) := rat xs hb (48, 4) (by decide) (by show 48 + 4 ≤ xs.length; omega) hx k hk
  have r9 : sundialref03_at.f k xs 52 2 = some (fieldN xs (52, 2)) := rat xs hb (52, 2) (by decide) (by show 52 + 2 ≤ xs.length; omega) hx k hk
  have hr : rightP xs = (right0 (fieldN xs (56, 2)) (fieldN xs (60, 2)) (fieldN xs (54, 2)) (fieldN xs (58, 2)) && ((((((((true && (fieldN xs (4, 1) == 2)) && (fieldN xs (5, 1) == 1)) && (fieldN xs (6, 1) == 1)) && (fieldN xs (16, 2) == 2)) && (fieldN xs (18, 2) == 62)) && (fieldN xs (20, 4) == 1)) && (fieldN xs (48, 4) == 0)) && (fieldN xs (52, 2) == 64))) := rfl
  have g0 := (pl_rg hb (56, 2) (by decide)).1
  have g1 := (pl_rg hb (60, 2) (by decide)).1
  obtain ⟨m, rfl⟩ : ∃ m, k = m + 1 := ⟨k - 1, by omega⟩
  have jf := rj_false m xs _ _ g0 g1 hb h hx (by omega)
  rw [hr]
  unfold sundialref03_right.f
  rw [r0, r1, r2, r3, r4, r5, r6, r7, r8, r9]
  simp only [Option.bind_some, rj_true]
  generalize right0 (fieldN xs (56, 2)) (fieldN xs (60, 2)) (fieldN xs (54, 2)) (fieldN xs (58, 2)) = R at jf ⊢
  generalize fieldN xs (4, 1) = m2
  generalize fieldN xs (5, 1) = m3
  generalize fieldN xs (6, 1) = m4
  generalize fieldN xs (16, 2) = m5
  generalize fieldN xs (18, 2) = m6
  generalize fieldN xs (20, 4) = m7
  generalize fieldN xs (48, 4) = m8
  generalize fieldN xs (52, 2) = m9
  by_cases c2 : m2 = 2
  · rw [if_pos c2]
    by_cases c3 : m3 = 1
    · rw [if_pos c3]
      by_cases c4 : m4 = 1
      · rw [if_pos c4]
        by_cases c5 : m5 = 2
        · rw [if_pos c5]
          by_cases c6 : m6 = 62
          · rw [if_pos c6]
            by_cases c7 : m7 = 1
            · rw [if_pos c7]
              by_cases c8 : m8 = 0
              · rw [if_pos c8]
                by_cases c9 : m9 = 64
                · rw [show (m9 != 64) = false by simp [c9], jf]
                  simp [c2, c3, c4, c5, c6, c7, c8, c9]
                · rw [show (m9 != 64) = true by simp [c9], rj_true]
                  simp [c9]
              · rw [if_neg c8]; simp [c8]
            · rw [if_neg c7]; simp [c7]
          · rw [if_neg c6]; simp [c6]
        · rw [if_neg c5]; simp [c5]
      · rw [if_neg c4]; simp [c4]
    · rw [if_neg c3]; simp [c3]
  · rw [if_neg c2]; simp [c2]
end Go.Proofs.YtopldeeojehklaaDoor.B
namespace Go.Proofs.YtopldeeojehklaaDoor.B
open Go.RowKit Go.Proofs.YtopldeeojehklaaDoorW.PrintWords Go.Proofs.YtopldeeojehklaaDoorW.PrintLast Go.Proofs.YtopldeeojehklaaDoorW.PrintMore
attribute [local go_sem] max2_int min2_int max_two min_two max_three min_three max_four min_four   -- for this text's walks alone
set_option linter.unusedVariables false
set_option linter.unusedSimpArgs false
mutual
def sundialref03_Read.j0 : Nat → List Int → Int → Int → Bool → Int → Int → Int → Option (Int × Int × Int × (List (S30)) × (List (S32)) × Int)
  | 0, _, _, _, _, _, _, _ => none
  | k + 1, x0, x5, x6, x70, x262000, x262001, x262002 => if x70 = true then (some (0, 0, 0, ([] : List (S30)), ([] : List (S32)), 33)) else (sundialref03_Read.l0 k x0 x5 x6 0 x262000 x262001 x262002 ([] : List (S30)))
def sundialref03_Read.l0 : Nat → List Int → Int → Int → Int → Int → Int → Int → List (S30) → Option (Int × Int × Int × (List (S30)) × (List (S32)) × Int)
  | 0, _, _, _, _, _, _, _, _ => none
  | k + 1, x0, x5, x6, x7, x262000, x262001, x262002, x262003 => if x7 < x5 then (if 0 ≤ (IntKind.u64.wrap (x262001 + (IntKind.u64.wrap (56 * x7)))) then (if (IntKind.u64.wrap (x262001 + (IntKind.u64.wrap (56 * x7)))) ≤ (x0.length : Int) then ((sundialref03_TakeSegment.f k (x0.drop ((IntKind.u64.wrap (x262001 + (IntKind.u64.wrap (56 * x7)))) : Int).toNat)).bind fun bt268 => (if x262003.length < 2932031007402 then (sundialref03_Read.l0 k x0 x5 x6 (IntKind.u64.wrap (x7 + 1)) x262000 x262001 x262002 (x262003 ++ [(⟨bt268.1, bt268.2.1, bt268.2.2.1, bt268.2.2.2.1, bt268.2.2.2.2.1, bt268.2.2.2.2.2.1, bt268.2.2.2.2.2.2.1⟩ : S30)])) else (none))) else (none)) else (none)) else (sundialref03_Read.l1 k x0 x6 0 x262000 x262001 x262002 x262003 ([] : List (S32)))
def sundialref03_Read.l1 : Nat → List Int → Int → Int → Int → Int → Int → List (S30) → List (S32) → Option (Int × Int × Int × (List (S30)) × (List (S32)) × Int)
  | 0, _, _, _, _, _, _, _, _ => none
  | k + 1, x0, x6, x10, x262000, x262001, x262002, x262003, x262004 => if x10 < x6 then (if 0 ≤ (IntKind.u64.wrap (x262002 + (IntKind.u64.wrap (64 * x10)))) then (if (IntKind.u64.wrap (x262002 + (IntKind.u64.wrap (64 * x10)))) ≤ (x0.length : Int) then ((sundialref03_TakeSection.f k (x0.drop ((IntKind.u64.wrap (x262002 + (IntKind.u64.wrap (64 * x10)))) : Int).toNat)).bind fun bt281 => (if x262004.length < 3518437208883 then (sundialref03_Read.l1 k x0 x6 (IntKind.u64.wrap (x10 + 1)) x262000 x262001 x262002 x262003 (x262004 ++ [(⟨bt281.1, bt281.2.1, bt281.2.2.1, bt281.2.2.2.1, bt281.2.2.2.2.1⟩ : S32)])) else (none))) else (none)) else (none)) else (some (x262000, x262001, x262002, x262003, x262004, 0))
end
def sundialref03_Read.f (k : Nat) (l0 : List Int) : Option (Int × Int × Int × (List (S30)) × (List (S32)) × Int) := if (l0.length : Int) > 131072 then (some (0, 0, 0, ([] : List (S30)), ([] : List (S32)), 2)) else (if (l0.length : Int) < 64 then (some (0, 0, 0, ([] : List (S30)), ([] : List (S32)), 30)) else (if 4 ≤ (l0.length : Int) then (if (strOfNums (l0.take 4)).toList = ([127, 69, 76, 70] : List UInt8) then ((sundialref03_right.f k l0).bind fun t257 => (if t257 = true then ((sundialref03_at.f k l0 24 8).bind fun t258 => ((sundialref03_at.f k l0 32 8).bind fun t259 => ((sundialref03_at.f k l0 40 8).bind fun t260 => ((sundialref03_at.f k l0 56 2).bind fun t262 => ((sundialref03_at.f k l0 60 2).bind fun t263 => (if t262 > 0 then ((sundialref03_within.f t259 (IntKind.u64.wrap (56 * t262)) (l0.length : Int)).bind fun t264 => (if t264 = true then (if t263 > 0 then ((sundialref03_within.f t260 (IntKind.u64.wrap (64 * t263)) (l0.length : Int)).bind fun t265 => (sundialref03_Read.j0 k l0 t262 t263 (!t265) t258 t259 t260)) else (sundialref03_Read.j0 k l0 t262 t263 false t258 t259 t260)) else (sundialref03_Read.j0 k l0 t262 t263 true t258 t259 t260))) else (if t263 > 0 then ((sundialref03_within.f t260 (IntKind.u64.wrap (64 * t263)) (l0.length : Int)).bind fun t266 => (sundialref03_Read.j0 k l0 t262 t263 (!t266) t258 t259 t260)) else (sundialref03_Read.j0 k l0 t262 t263 false t258 t259 t260)))))))) else (some (0, 0, 0, ([] : List (S30)), ([] : List (S32)), 32)))) else (some (0, 0, 0, ([] : List (S30)), ([] : List (S32)), 31))) else (none)))
end Go.Proofs.YtopldeeojehklaaDoor.B
namespace Go.Proofs.YtopldeeojehklaaDoor.B
open Go.RowKit Go.Proofs.YtopldeeojehklaaDoorW.PrintWords Go.Proofs.YtopldeeojehklaaDoorW.PrintMore Go.RF
set_option linter.unusedVariables false
set_option linter.unusedSimpArgs false
theorem rwithin (fr a L : Int) (h0 : 0 ≤ fr) (h1 : 0 ≤ a) (h2 : 0 ≤ L) (h3 : L ≤ 1000000) : sundialref03_within.f fr a L = some (decide (fr + a ≤ L)) := by
  unfold sundialref03_within.f
  have e0 : IntKind.u64.wrap L = L := wrapU (by omega) (by omega)
  rw [e0]
  by_cases h : fr ≤ L
  · have e1 : IntKind.u64.wrap (L - fr) = L - fr := wrapU (by omega) (by omega)
    rw [if_pos h, e1]
    by_cases h4 : fr + a ≤ L
    · rw [decide_eq_true h4, decide_eq_true (by omega)]
    · rw [decide_eq_false h4, decide_eq_false (by omega)]
  · rw [if_neg h, decide_eq_false (by omega)]
theorem rread_l1 (xs : List Int) (hb : BB xs) (hx : xs.length ≤ 1000000) (m co : Nat) (hm : m ≤ 1000) (hw : 0 < m → co + 64 * m ≤ xs.length) (e so : Int) (S : List S30) : ∀ (d i k : Nat), i + d = m → d + 10 ≤ k →
    sundialref03_Read.l1 k xs (m : Int) (i : Int) e so (co : Int) S (secsP xs co i) = some (e, so, (co : Int), S, secsP xs co m, 0)
  | 0, i, k, hi, hk => by
    obtain ⟨k, rfl⟩ : ∃ m, k = m + 1 := ⟨k - 1, by omega⟩
    obtain rfl : i = m := by omega
    rw [sundialref03_Read.l1, if_neg (by omega)]
  | d + 1, i, k, hi, hk => by
    obtain ⟨k, rfl⟩ : ∃ m, k = m + 1 := ⟨k - 1, by omega⟩
    have hw' := hw (by omega)
    have e1 : IntKind.u64.wrap (64 * (i : Int)) = 64 * (i : Int) := wrapU (by omega) (by omega)
    have e2 : IntKind.u64.wrap ((co : Int) + 64 * (i : Int)) = ((co + 64 * i : Nat) : Int) := by rw [wrapU (by omega) (by omega)]; omega
    have e3 : IntKind.u64.wrap ((i : Int) + 1) = ((i + 1 : Nat) : Int) := by rw [wrapU (by omega) (by omega)]; omega
    have hd : (xs.drop (co + 64 * i)).length = xs.length - (co + 64 * i) := List.length_drop
    have ht : takeSecP (xs.drop (co + 64 * i)) = secT (secV (xs.drop (co + 64 * i))) 0 := by unfold takeSecP; rw [if_neg (by omega)]
    have hsl : (secsP xs co i).length = i := by simp [secsP]
    rw [sundialref03_Read.l1, if_pos (by omega), e1, e2, if_pos (by omega), if_pos (by omega), Int.toNat_natCast, rtsec _ (hb.drop _) (by omega) k (by omega), Option.bind_some, ht, if_pos (by rw [hsl]; omega), e3]
    have ih := rread_l1 xs hb hx m co hm hw e so S d (i + 1) k (by omega) (by omega)
    rw [secsP_succ] at ih
    exact ih
theorem rread_l0 (xs : List Int) (hb : BB xs) (hx : xs.length ≤ 1000000) (n m so co : Nat) (hn : n ≤ 1000) (hm : m ≤ 1000) (hv : 0 < n → so + 56 * n ≤ xs.length) (hw : 0 < m → co + 64 * m ≤ xs.length) (e : Int) : ∀ (d i k : Nat), i + d = n → d + m + 11 ≤ k →
    sundialref03_Read.l0 k xs (n : Int) (m : Int) (i : Int) e (so : Int) (co : Int) (segsP xs so i) = some (e, (so : Int), (co : Int), segsP xs so n, secsP xs co m, 0)
  | 0, i, k, hi, hk => by
    obtain ⟨k, rfl⟩ : ∃ m, k = m + 1 := ⟨k - 1, by omega⟩
    obtain rfl : i = n := by omega
    rw [sundialref03_Read.l0, if_neg (by omega)]
    exact rread_l1 xs hb hx m co hm hw e so (segsP xs so i) m 0 k (by omega) (by omega)
  | d + 1, i, k, hi, hk => by
    obtain ⟨k, rfl⟩ : ∃ m, k = m + 1 := ⟨k - 1, by omega⟩
    have hv' := hv (by omega)
    have e1 : IntKind.u64.wrap (56 * (i : Int)) = 56 * (i : Int) := wrapU (by omega) (by omega)
    have e2 : IntKind.u64.wrap ((so : Int) + 56 * (i : Int)) = ((so + 56 * i : Nat) : Int) := by rw [wrapU (by omega) (by omega)]; omega
    have e3 : IntKind.u64.wrap ((i : Int) + 1) = ((i + 1 : Nat) : Int) := by rw [wrapU (by omega) (by omega)]; omega
    have hd : (xs.drop (so + 56 * i)).length = xs.length - (so + 56 * i) := List.length_drop
    have ht : takeSegP (xs.drop (so + 56 * i)) = segT (segV (xs.drop (so + 56 * i))) 0 := by unfold takeSegP; rw [if_neg (by omega)]
    have hsl : (segsP xs so i).length = i := by simp [segsP]
    rw [sundialref03_Read.l0, if_pos (by omega), e1, e2, if_pos (by omega), if_pos (by omega), Int.toNat_natCast, rtseg _ (hb.drop _) (by omega) k (by omega), Option.bind_some, ht, if_pos (by rw [hsl]; omega), e3]
    have ih := rread_l0 xs hb hx n m so co hn hm hv hw e d (i + 1) k (by omega) (by omega)
    rw [segsP_succ] at ih
    exact ih
theorem right_le {xs : List Int} (h : rightP xs = true) : pl xs 3 ≤ 16 ∧ pl xs 4 ≤ 32 := by
  unfold rightP right0 at h
  simp at h
  exact ⟨h.1.1, h.1.2.1⟩
theorem pl_nn {xs : List Int} (hb : BB xs) (i : Nat) (h : (placesF.getD i (0, 0)).2 ≤ 8) : 0 ≤ pl xs i := (pl_rg hb (placesF.getD i (0, 0)) h).1
theorem rj33 (k : Nat) (xs : List Int) (a b e s c : Int) : sundialref03_Read.j0 (k + 1) xs a b true e s c = some (0, 0, 0, [], [], 33) := by rw [sundialref03_Read.j0, if_pos rfl]
theorem rread (xs : List Int) (hb : BB xs) : sundialref03_Read.f 200 xs = some (readP xs) := by
  unfold sundialref03_Read.f readP
  by_cases h1 : 131072 < xs.length
  · rw [if_pos (by omega), if_pos h1]
  rw [if_neg (by omega), if_neg h1]
  by_cases h2 : xs.length < 64
  · rw [if_pos (by omega), if_pos h2]
  rw [if_neg (by omega), if_neg h2, if_pos (by omega)]
  by_cases h3 : xs.take 4 = elfS
  · rw [ByteArray.toList_eq, if_pos (by rw [str_elf h3]), if_neg (fun k => k h3), rright 200 xs hb (by omega) (by omega) (by decide), Option.bind_some]
    by_cases h4 : rightP xs = true
    · rw [if_pos h4, if_neg (by rw [h4]; decide)]
      obtain ⟨q3, q4⟩ := right_le h4
      have p0 : sundialref03_at.f 200 xs 24 8 = some (pl xs 0) := rat xs hb (24, 8) (by decide) (by show 24 + 8 ≤ xs.length; omega) (by omega) 200 (by decide)
      have p1 : sundialref03_at.f 200 xs 32 8 = some (pl xs 1) := rat xs hb (32, 8) (by decide) (by show 32 + 8 ≤ xs.length; omega) (by omega) 200 (by decide)
      have p2 : sundialref03_at.f 200 xs 40 8 = some (pl xs 2) := rat xs hb (40, 8) (by decide) (by show 40 + 8 ≤ xs.length; omega) (by omega) 200 (by decide)
      have p3 : sundialref03_at.f 200 xs 56 2 = some (pl xs 3) := rat xs hb (56, 2) (by decide) (by show 56 + 2 ≤ xs.length; omega) (by omega) 200 (by decide)
      have p4 : sundialref03_at.f 200 xs 60 2 = some (pl xs 4) := rat xs hb (60, 2) (by decide) (by show 60 + 2 ≤ xs.length; omega) (by omega) 200 (by decide)
      have g1 := pl_nn hb 1 (by decide)
      have g2 := pl_nn hb 2 (by decide)
      have g3 := pl_nn hb 3 (by decide)
      have g4 := pl_nn hb 4 (by decide)
      rw [p0, p1, p2, p3, p4]
      simp only [Option.bind_some]
      generalize pl xs 0 = e
      obtain ⟨so, hso⟩ : ∃ so : Nat, pl xs 1 = so := ⟨(pl xs 1).toNat, by omega⟩
      obtain ⟨co, hco⟩ : ∃ co : Nat, pl xs 2 = co := ⟨(pl xs 2).toNat, by omega⟩
      obtain ⟨n, hn⟩ : ∃ n : Nat, pl xs 3 = n := ⟨(pl xs 3).toNat, by omega⟩
      obtain ⟨m, hm⟩ : ∃ m : Nat, pl xs 4 = m := ⟨(pl xs 4).toNat, by omega⟩
      rw [hso, hco, hn, hm]
      simp only [Int.toNat_natCast]
      have w1 : IntKind.u64.wrap (56 * (n : Int)) = 56 * (n : Int) := wrapU (by omega) (by omega)
      have w2 : IntKind.u64.wrap (64 * (m : Int)) = 64 * (m : Int) := wrapU (by omega) (by omega)
      rw [w1, w2, rwithin _ _ _ (by omega) (by omega) (by omega) (by omega), rwithin _ _ _ (by omega) (by omega) (by omega) (by omega)]
      simp only [Option.bind_some]
      have good : ¬ (badP xs.length so n 56 ∨ badP xs.length co m 64) → sundialref03_Read.j0 200 xs (n : Int) (m : Int) false e (so : Int) (co : Int) = some (e, (so : Int), (co : Int), segsP xs so n, secsP xs co m, 0) := fun hg => by
        unfold badP at hg
        rw [sundialref03_Read.j0, if_neg (by decide)]
        exact rread_l0 xs hb (by omega) n m so co (by omega) (by omega) (by omega) (by omega) e n 0 199 (by omega) (by omega)
      by_cases c1 : (n : Int) > 0
      · rw [if_pos c1]
        by_cases c2 : (so : Int) + 56 * (n : Int) ≤ (xs.length : Int)
        · rw [if_pos (decide_eq_true c2)]
          by_cases c3 : (m : Int) > 0
          · rw [if_pos c3]
            by_cases c4 : (co : Int) + 64 * (m : Int) ≤ (xs.length : Int)
            · have hg : ¬ (badP xs.length so n 56 ∨ badP xs.length co m 64) := by unfold badP; omega
              rw [if_neg hg, decide_eq_true c4]
              exact good hg
            · rw [if_pos (by unfold badP; omega), decide_eq_false c4]
              exact rj33 199 _ _ _ _ _ _
          · have hg : ¬ (badP xs.length so n 56 ∨ badP xs.length co m 64) := by unfold badP; omega
            rw [if_neg c3, if_neg hg]
            exact good hg
        · rw [if_neg (by rw [decide_eq_true_eq]; exact c2), if_pos (by unfold badP; omega)]
          exact rj33 199 _ _ _ _ _ _
      · rw [if_neg c1]
        by_cases c3 : (m : Int) > 0
        · rw [if_pos c3]
          by_cases c4 : (co : Int) + 64 * (m : Int) ≤ (xs.length : Int)
          · have hg : ¬ (badP xs.length so n 56 ∨ badP xs.length co m 64) := by unfold badP; omega
            rw [if_neg hg, decide_eq_true c4]
            exact good hg
          · rw [if_pos (by unfold badP; omega), decide_eq_false c4]
            exact rj33 199 _ _ _ _ _ _
        · have hg : ¬ (badP xs.length so n 56 ∨ badP xs.length co m 64) := by unfold badP; omega
          rw [if_neg c3, if_neg hg]
          exact good hg
    · rw [if_neg h4, if_pos (by simpa using h4)]
  · rw [if_pos h3, ByteArray.toList_eq, if_neg (fun k => h3 (elf_str (hb.take 4) (by rw [List.length_take]; omega) k))]
end Go.Proofs.YtopldeeojehklaaDoor.B
namespace Go.Proofs.YtopldeeojehklaaDoor.B
open Go.RowKit Go.Proofs.YtopldeeojehklaaDoorW.PrintWords Go.Proofs.YtopldeeojehklaaDoorW.PrintLast Go.Proofs.YtopldeeojehklaaDoorW.PrintMore
attribute [local go_sem] max2_int min2_int max_two min_two max_three min_three max_four min_four   -- for this text's walks alone
set_option linter.unusedVariables false
set_option linter.unusedSimpArgs false
attribute [local go_sem high] eqA30 eqA32
noncomputable def sundiallaw03_HeaderTells.j0 : Nat → List Int → Bool → Option (Bool)
  | 0, _, _ => none
  | k + 1, x0, x65 => if x65 = true then (some false) else ((header_TakeSegment.f x0).bind fun bt467 => ((sundialref03_TakeSegment.f k x0).bind fun bt476 => ((header_TakeSection.f x0).bind fun bt485 => ((sundialref03_TakeSection.f k x0).bind fun bt492 => (if (bt467.1 == bt476.1 && (bt467.2.1 == bt476.2.1 && (bt467.2.2.1 == bt476.2.2.1 && (bt467.2.2.2.1 == bt476.2.2.2.1 && (bt467.2.2.2.2.1 == bt476.2.2.2.2.1 && (bt467.2.2.2.2.2.1 == bt476.2.2.2.2.2.1 && (bt467.2.2.2.2.2.2.1 == bt476.2.2.2.2.2.2.1))))))) = true then (if bt467.2.2.2.2.2.2.2 = bt476.2.2.2.2.2.2.2 then (if (bt485.1 == bt492.1 && (bt485.2.1 == bt492.2.1 && (bt485.2.2.1 == bt492.2.2.1 && (bt485.2.2.2.1 == bt492.2.2.2.1 && (bt485.2.2.2.2.1 == bt492.2.2.2.2.1))))) = true then (if bt485.2.2.2.2.2 = bt492.2.2.2.2.2 then ((sundiallaw03_wakes.f).bind fun t499 => (some t499)) else (some false)) else (some false)) else (some false)) else (some false))))))
noncomputable def sundiallaw03_HeaderTells.f (k : Nat) (l0 : List Int) (a1_0 : Int) (a1_1 : Int) (a1_2 : Int) (l1_3 : List (S30)) (l1_4 : List (S32)) (a2_0 : Int) (a2_1 : Int) (a2_2 : Int) (a2_3 : Int) (a2_4 : Int) (a2_5 : Int) (a2_6 : Int) (a3_0 : Int) (a3_1 : Int) (a3_2 : Int) (a3_3 : Int) (a3_4 : Int) : Option (Bool) := (sundiallaw03_great.f a1_0 a1_1 a1_2 l1_3 l1_4 l0).bind fun t421 => (if t421 = true then ((sundiallaw03_wakes.f).bind fun t422 => (some t422)) else ((header_Read.f l0).bind fun bt423 => ((sundialref03_Read.f k l0).bind fun bt434 => ((sundialref03_Same.f k bt423.1 bt423.2.1 bt423.2.2.1 bt423.2.2.2.1 bt423.2.2.2.2.1 bt434.1 bt434.2.1 bt434.2.2.1 bt434.2.2.2.1 bt434.2.2.2.2.1).bind fun t445 => (if t445 = true then (if bt423.2.2.2.2.2 = bt434.2.2.2.2.2 then ((header_Head.f a1_0 a1_1 a1_2 l1_3 l1_4).bind fun t446 => ((sundialref03_Head.f k a1_0 a1_1 a1_2 l1_3 l1_4).bind fun t449 => ((sundiallaw03_same.f t446 t449).bind fun t452 => (if t452 = true then ((header_Segment.f a2_0 a2_1 a2_2 a2_3 a2_4 a2_5 a2_6).bind fun t453 => ((sundialref03_Segment.f k a2_0 a2_1 a2_2 a2_3 a2_4 a2_5 a2_6).bind fun t456 => ((sundiallaw03_same.f t453 t456).bind fun t459 => (if t459 = true then ((header_Section.f a3_0 a3_1 a3_2 a3_3 a3_4).bind fun t460 => ((sundialref03_Section.f k a3_0 a3_1 a3_2 a3_3 a3_4).bind fun t463 => ((sundiallaw03_same.f t460 t463).bind fun t466 => (sundiallaw03_HeaderTells.j0 k l0 (!t466))))) else (sundiallaw03_HeaderTells.j0 k l0 true))))) else (sundiallaw03_HeaderTells.j0 k l0 true))))) else (sundiallaw03_HeaderTells.j0 k l0 true)) else (sundiallaw03_HeaderTells.j0 k l0 true))))))
end Go.Proofs.YtopldeeojehklaaDoor.B
namespace Go.Proofs.YtopldeeojehklaaDoor.B
open Go.RowKit Go.Proofs.YtopldeeojehklaaDoorW.PrintWords Go.Proofs.YtopldeeojehklaaDoorW.PrintMore Go.RF
set_option linter.unusedVariables false
set_option linter.unusedSimpArgs false
theorem readP_len (xs : List Int) (hb : BB xs) : (readP xs).2.2.2.1.length ≤ 16 ∧ (readP xs).2.2.2.2.1.length ≤ 32 := by
  unfold readP
  split
  · exact ⟨by decide, by decide⟩
  split
  · exact ⟨by decide, by decide⟩
  split
  · exact ⟨by decide, by decide⟩
  split
  · exact ⟨by decide, by decide⟩
  rename_i h4
  split
  · exact ⟨by decide, by decide⟩
  · obtain ⟨q3, q4⟩ := right_le (show rightP xs = true by simpa using h4)
    have g3 := pl_nn hb 3 (by decide)
    have g4 := pl_nn hb 4 (by decide)
    refine ⟨?_, ?_⟩
    · show (segsP _ _ _).length ≤ 16
      simp only [segsP, List.length_map, List.length_range]
      omega
    · show (secsP _ _ _).length ≤ 32
      simp only [secsP, List.length_map, List.length_range]
      omega
theorem Pure.HeaderTells (xs : List Int) (a0 a1 a2 : Int) (S : List S30) (C : List S32) (s0 s1 s2 s3 s4 s5 s6 c0 c1 c2 c3 c4 : Int) (hb : BB xs) :
    sundiallaw03_HeaderTells.f 200 xs a0 a1 a2 S C s0 s1 s2 s3 s4 s5 s6 c0 c1 c2 c3 c4 = some true := by
  unfold sundiallaw03_HeaderTells.f
  rw [great_f, Option.bind_some]
  by_cases hg : 40 < S.length ∨ 80 < C.length ∨ 6000 < xs.length
  · rw [decide_eq_true hg, if_pos rfl, wakes_f]
    rfl
  rw [decide_eq_false hg, if_neg (by decide)]
  unfold header_Read.f header_Head.f header_Segment.f header_Section.f
  obtain ⟨l1, l2⟩ := readP_len xs hb
  rw [G.Read_eq, if_pos hb, Option.bind_some, rread xs hb, Option.bind_some, rsame_refl _ _ _ _ _ (by omega) (by omega) 200 (by omega), Option.bind_some, if_pos rfl, if_pos rfl, G.Head_eq, Option.bind_some, rhead _ _ _ _ _ 200 (by decide), Option.bind_some, same_refl, Option.bind_some, if_pos rfl,
    G.Segment_eq, Option.bind_some, rseg _ _ _ _ _ _ _ 200 (by decide), Option.bind_some, same_refl, Option.bind_some, if_pos rfl, G.Section_eq, Option.bind_some, rsec _ _ _ _ _ 200 (by decide), Option.bind_some, same_refl, Option.bind_some]
  show sundiallaw03_HeaderTells.j0 200 xs false = some true
  rw [sundiallaw03_HeaderTells.j0, if_neg (by decide)]
  unfold header_TakeSegment.f header_TakeSection.f
  rw [G.TakeSegment_eq, if_pos ⟨hb, by omega⟩, Option.bind_some, rtseg xs hb (by omega) 199 (by decide), Option.bind_some, G.TakeSection_eq, if_pos ⟨hb, by omega⟩, Option.bind_some, rtsec xs hb (by omega) 199 (by decide), Option.bind_some]
  rw [if_pos (by simp only [beq_self_eq_true]; decide), if_pos rfl, if_pos (by simp only [beq_self_eq_true]; decide), if_pos rfl, wakes_f]
  rfl
end Go.Proofs.YtopldeeojehklaaDoor.B
