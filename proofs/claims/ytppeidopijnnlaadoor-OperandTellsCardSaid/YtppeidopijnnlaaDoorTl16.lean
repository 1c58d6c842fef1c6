/- The reference's Put says the same as the program's. -/
import Derived.Test.YtppeidopijnnlaaDoorTl14
import Derived.Test.YtppeidopijnnlaaDoorTl15
import Derived.Test.YtppeidopijnnlaaDoorTl10
namespace Go.Proofs.YtppeidopijnnlaaDoor.C
open Go.RowKit Go.Proofs.YtppeidopijnnlaaDoorW.PrintWords Go.Proofs.YtppeidopijnnlaaDoorW.PrintLast Go.Proofs.YtppeidopijnnlaaDoorW.PrintMore Go.RF
set_option linter.unusedVariables false
set_option linter.unusedSimpArgs false
theorem and7p_cases : ∀ r : Fin 16, Go.bits .and .i64 (r.val : Int) 7 = (r.val : Int) % 8 := by decide +kernel
theorem and7p (r : Int) (h0 : 0 ≤ r) (h1 : r < 16) : Go.bits .and .i64 r 7 = r % 8 := B.fin_of (n := 16) (P := fun r => Go.bits .and .i64 r 7 = r % 8) and7p_cases r h0 h1
theorem shr_at (dp : Int) (i : Nat) (hi : i < 4) : 0 ≤ IntKind.u64.wrap (wrap64 (8 * (i : Int))) ∧ shr .u64 (IntKind.u64.wrap dp) (IntKind.u64.wrap (wrap64 (8 * (i : Int)))) % 256 = B.byteAt dp i := by
  rw [B.byteAt_eq]
  have h : i = 0 ∨ i = 1 ∨ i = 2 ∨ i = 3 := by omega
  have hw : IntKind.u64.wrap dp = dp % 18446744073709551616 := by simp [IntKind.wrap, IntKind.bits, IntKind.signed]
  rw [hw]
  rcases h with rfl | rfl | rfl | rfl
  · refine ⟨by decide +kernel, ?_⟩
    have e : IntKind.u64.wrap (wrap64 (8 * ((0 : Nat) : Int))) = 0 := by decide +kernel
    rw [e]
    show dp % 18446744073709551616 / 2 ^ 0 % 256 = dp / 2 ^ (8 * 0) % 256
    omega
  · refine ⟨by decide +kernel, ?_⟩
    have e : IntKind.u64.wrap (wrap64 (8 * ((1 : Nat) : Int))) = 8 := by decide +kernel
    rw [e]
    show dp % 18446744073709551616 / 2 ^ 8 % 256 = dp / 2 ^ (8 * 1) % 256
    omega
  · refine ⟨by decide +kernel, ?_⟩
    have e : IntKind.u64.wrap (wrap64 (8 * ((2 : Nat) : Int))) = 16 := by decide +kernel
    rw [e]
    show dp % 18446744073709551616 / 2 ^ 16 % 256 = dp / 2 ^ (8 * 2) % 256
    omega
  · refine ⟨by decide +kernel, ?_⟩
    have e : IntKind.u64.wrap (wrap64 (8 * ((3 : Nat) : Int))) = 24 := by decide +kernel
    rw [e]
    show dp % 18446744073709551616 / 2 ^ 24 % 256 = dp / 2 ^ (8 * 3) % 256
    omega
theorem shown_go (dp : Int) (W : Nat) (hW : W ≤ 4) : ∀ (d i k : Nat), W - i = d → i ≤ W → d < k → r8_shown.l0 k dp W (B.dispB dp i) i = some (B.dispB dp W) := by
  intro d
  induction d with
  | zero =>
    intro i k hd hi hk
    obtain ⟨k, rfl⟩ : ∃ m, k = m + 1 := ⟨k - 1, by omega⟩
    obtain rfl : i = W := by omega
    rw [r8_shown.l0, if_neg (by omega)]
  | succ d ih =>
    intro i k hd hi hk
    obtain ⟨k, rfl⟩ : ∃ m, k = m + 1 := ⟨k - 1, by omega⟩
    have h := shr_at dp i (by omega)
    have hw : wrap64 ((i : Int) + 1) = ((i + 1 : Nat) : Int) := by unfold wrap64; omega
    have hlen : (B.dispB dp i).length < 140737488355328 := by rw [B.dispB_len]; omega
    rw [r8_shown.l0, if_pos (by omega), if_pos h.1, if_pos hlen, h.2, hw]
    have e : B.dispB dp i ++ [B.byteAt dp i] = B.dispB dp (i + 1) := by simp [B.dispB, List.range_succ]
    rw [e]
    exact ih (i + 1) k (by omega) (by omega) (by omega)
theorem shown_f (dp : Int) (W : Nat) (hW : W ≤ 4) (k : Nat) (hk : 5 ≤ k) : r8_shown.f k dp W = some (B.dispB dp W) := by
  unfold r8_shown.f
  exact shown_go dp W hW W 0 k (by omega) (by omega) (by omega)
section
variable (k R base idx sc dp : Int) (rip : Bool) (im : Int)
theorem pj6 (x7 x8 md x11 x12 x13 : Int) (W : Nat) (hW : W ≤ 4) (c : Bool) (n : Nat) (hn : 6 ≤ n) :
    r8_Put.j6 n x7 x8 md W x11 x12 x13 c k R base idx sc dp rip im =
      some ((if c = true then [Go.bits .or .u8 (Go.bits .or .u8 ((md * 64) % 256) x7) x11] ++ B.dispB dp W else [Go.bits .or .u8 (Go.bits .or .u8 ((md * 64) % 256) x7) 4, Go.bits .or .u8 (Go.bits .or .u8 ((x13 * 64) % 256) ((x12 * 8) % 256)) x11] ++ B.dispB dp W), x8, 0) := by
  obtain ⟨n, rfl⟩ : ∃ m, n = m + 1 := ⟨n - 1, by omega⟩
  have hlen := B.dispB_len dp W
  rw [r8_Put.j6, shown_f dp W hW n (by omega)]
  cases c
  · simp only [Bool.false_eq_true, if_false, Option.bind_some]
    rw [if_pos (by rw [hlen]; simp; omega)]
  · simp only [if_true, Option.bind_some]
    rw [if_pos (by rw [hlen]; simp; omega)]
theorem pj5 (x7 x8 md x11 x12 x13 : Int) (W : Nat) (hW : W ≤ 4) (n : Nat) (hn : 7 ≤ n) :
    r8_Put.j5 n x7 x8 md W x11 x12 x13 k R base idx sc dp rip im =
      some ((if 0 ≤ idx ∨ base < 0 ∨ x11 = 4 then [Go.bits .or .u8 (Go.bits .or .u8 ((md * 64) % 256) x7) 4, Go.bits .or .u8 (Go.bits .or .u8 ((x13 * 64) % 256) ((x12 * 8) % 256)) x11] ++ B.dispB dp W else [Go.bits .or .u8 (Go.bits .or .u8 ((md * 64) % 256) x7) x11] ++ B.dispB dp W), x8, 0) := by
  obtain ⟨n, rfl⟩ : ∃ m, n = m + 1 := ⟨n - 1, by omega⟩
  rw [r8_Put.j5]
  by_cases h1 : idx < 0
  · rw [if_pos h1]
    by_cases h2 : base ≥ 0
    · rw [if_pos h2, pj6 k R base idx sc dp rip im x7 x8 md x11 x12 x13 W hW _ n (by omega)]
      by_cases h4 : x11 = 4
      · rw [if_pos (show 0 ≤ idx ∨ base < 0 ∨ x11 = 4 from .inr (.inr h4)), if_neg (by simp [h4])]
      · rw [if_neg (show ¬ (0 ≤ idx ∨ base < 0 ∨ x11 = 4) by omega), if_pos (by simp [h4])]
    · rw [if_neg h2, pj6 k R base idx sc dp rip im x7 x8 md x11 x12 x13 W hW _ n (by omega), if_pos (show 0 ≤ idx ∨ base < 0 ∨ x11 = 4 from .inr (.inl (by omega))), if_neg (by decide)]
  · rw [if_neg h1, pj6 k R base idx sc dp rip im x7 x8 md x11 x12 x13 W hW _ n (by omega), if_pos (show 0 ≤ idx ∨ base < 0 ∨ x11 = 4 from .inl (by omega)), if_neg (by decide)]
theorem shl_small4 (x : Int) (h0 : 0 ≤ x) (h : x < 4) : 0 ≤ IntKind.u64.wrap x ∧ shl .i64 1 (IntKind.u64.wrap x) = 2 ^ x.toNat := shl_one x h0 h
theorem pl0 (x7 x8 md x11 x12 : Int) (W : Nat) (hs : sc = 1 ∨ sc = 2 ∨ sc = 4 ∨ sc = 8) (n : Nat) :
    r8_Put.l0 (n + 4) x7 x8 md W x11 x12 0 k R base idx sc dp rip im = r8_Put.j5 (n + 3 - (B.tzN sc).toNat) x7 x8 md W x11 x12 (B.tzN sc) k R base idx sc dp rip im := by
  have s0 := shl_small4 0 (by decide) (by decide)
  have s1 := shl_small4 1 (by decide) (by decide)
  have s2 := shl_small4 2 (by decide) (by decide)
  have s3 := shl_small4 3 (by decide) (by decide)
  rcases hs with rfl | rfl | rfl | rfl
  · rw [r8_Put.l0, if_pos s0.1, s0.2, if_neg (by decide)]
    rfl
  · rw [r8_Put.l0, if_pos s0.1, s0.2, if_pos (by decide), show ((0 : Int) + 1) % 256 = 1 by decide]
    rw [r8_Put.l0, if_pos s1.1, s1.2, if_neg (by decide)]
    rfl
  · rw [r8_Put.l0, if_pos s0.1, s0.2, if_pos (by decide), show ((0 : Int) + 1) % 256 = 1 by decide]
    rw [r8_Put.l0, if_pos s1.1, s1.2, if_pos (by decide), show ((1 : Int) + 1) % 256 = 2 by decide]
    rw [r8_Put.l0, if_pos s2.1, s2.2, if_neg (by decide)]
    rfl
  · rw [r8_Put.l0, if_pos s0.1, s0.2, if_pos (by decide), show ((0 : Int) + 1) % 256 = 1 by decide]
    rw [r8_Put.l0, if_pos s1.1, s1.2, if_pos (by decide), show ((1 : Int) + 1) % 256 = 2 by decide]
    rw [r8_Put.l0, if_pos s2.1, s2.2, if_pos (by decide), show ((2 : Int) + 1) % 256 = 3 by decide]
    rw [r8_Put.l0, if_pos s3.1, s3.2, if_neg (by decide)]
    rfl
theorem high_eq (x : Int) (h0 : 0 ≤ x) (h1 : x < 16) : x / 8 % 256 = B.highF x := by rw [(B.low_high x h0 h1).2]; omega
theorem low_eq (x : Int) : Go.bits .and .i64 x 7 % 256 = B.lowF x := rfl
theorem tz_256 (s : Int) : B.tzN s % 256 = B.tzN s := by have := B.tzN_lt s; omega
theorem pj3 (x7 x8 md x11 : Int) (W : Nat) (hW : W ≤ 4) (hi : -1 ≤ idx ∧ idx < 16) (hs : 0 ≤ idx → sc = 1 ∨ sc = 2 ∨ sc = 4 ∨ sc = 8) (n : Nat) (hn : 12 ≤ n) :
    r8_Put.j3 n x7 x8 md W x11 4 0 k R base idx sc dp rip im =
      some ((if 0 ≤ idx ∨ base < 0 ∨ x11 = 4 then [Go.bits .or .u8 (Go.bits .or .u8 ((md * 64) % 256) x7) 4, Go.bits .or .u8 (Go.bits .or .u8 (((if 0 ≤ idx then B.tzN sc else 0) % 256 * 64) % 256) (((if 0 ≤ idx then B.lowF idx else 4) * 8) % 256)) x11] ++ B.dispB dp W else [Go.bits .or .u8 (Go.bits .or .u8 ((md * 64) % 256) x7) x11] ++ B.dispB dp W),
        (if 0 ≤ idx then Go.bits .or .u8 x8 (IntKind.u8.wrap (B.highF idx * 2)) else x8), 0) := by
  obtain ⟨n, rfl⟩ : ∃ m, n = m + 5 := ⟨n - 5, by omega⟩
  rw [r8_Put.j3]
  by_cases h : idx ≥ 0
  · have ht := B.tzN_lt sc
    rw [if_pos h, pl0 k R base idx sc dp rip im _ _ _ _ _ W (hs h) n, pj5 k R base idx sc dp rip im _ _ _ _ _ _ W hW _ (by omega)]
    simp only [if_pos (show 0 ≤ idx from h)]
    rw [tz_256, low_eq, high_eq idx h hi.2, IntKind.wrap_u8]
  · rw [if_neg h, pj5 k R base idx sc dp rip im _ _ _ _ _ _ W hW _ (by omega)]
    simp only [if_neg (show ¬ 0 ≤ idx from h)]
    rfl
theorem pj2 (reg md : Int) (W : Nat) (hW : W ≤ 4) (hr : 0 ≤ reg ∧ reg ≤ 15) (hb : -1 ≤ base ∧ base < 16) (hi : -1 ≤ idx ∧ idx < 16) (hs : 0 ≤ idx → sc = 1 ∨ sc = 2 ∨ sc = 4 ∨ sc = 8) (n : Nat) (hn : 13 ≤ n) :
    r8_Put.j2 n (B.lowF reg * 8 % 256) (B.highF reg * 4 % 256) md W k R base idx sc dp rip im = some (B.putMB reg base idx sc dp md W, B.putMR reg base idx, 0) := by
  obtain ⟨n, rfl⟩ : ∃ m, n = m + 1 := ⟨n - 1, by omega⟩
  rw [r8_Put.j2]
  unfold B.putMB B.putMR
  by_cases h : base ≥ 0
  · rw [if_pos h, pj3 k R base idx sc dp rip im _ _ _ _ W hW hi hs n (by omega), low_eq, high_eq base h hb.2]
    simp only [if_pos (show 0 ≤ base from h)]
  · rw [if_neg h, pj3 k R base idx sc dp rip im _ _ _ _ W hW hi hs n (by omega)]
    simp only [if_neg (show ¬ 0 ≤ base from h)]
end
theorem refPut (m : Nat) (reg k R base idx sc dp : Int) (rip : Bool) (im : Int) : r8_Put.f (m + 20) reg k R base idx sc dp rip im = some (B.putF reg k R base idx sc dp rip im) := by
  have jt : r8_Put.j0 (m + 20) reg true k R base idx sc dp rip im = some ([], 0, 2) := by rw [r8_Put.j0, if_pos rfl]
  unfold r8_Put.f B.putF
  by_cases h0 : reg < 0
  · rw [if_pos h0, jt, if_neg (by omega)]
  rw [if_neg h0]
  by_cases h1 : reg > 15
  · rw [if_pos h1, jt, if_neg (by omega)]
  rw [if_neg h1, refRight (m + 18)]
  simp only [Option.bind_some]
  have hr : 0 ≤ reg ∧ reg ≤ 15 := by omega
  cases hR : B.rightF k R base idx sc dp rip im
  · rw [show (!false) = true from rfl, jt, if_neg (by simp)]
  have hP := (B.rightF_iff k R base idx sc dp rip im).1 hR
  rw [show (!true) = false from rfl, if_pos ⟨hr.1, hr.2, rfl⟩, r8_Put.j0, if_neg (by decide), low_eq, high_eq reg hr.1 (by omega)]
  rcases hP with ⟨rfl, hR0, hR1, rfl, rfl, rfl, rfl, rfl, rfl⟩ | ⟨rfl, rfl, rfl, hd, ⟨rfl, rfl, rfl, rfl⟩ | ⟨rfl, p1, p2, p3, p4, p5, p6⟩⟩
  · rw [if_pos rfl, if_pos rfl, low_eq, high_eq R hR0 hR1]
  · rw [if_neg (by decide), if_pos rfl, if_neg (by decide), if_pos rfl]
    have e : r8_shown.f (m + 19) dp 4 = some (B.dispB dp 4) := shown_f dp 4 (by decide) (m + 19) (by omega)
    rw [e]
    simp only [Option.bind_some]
    rw [if_pos (by rw [B.dispB_len]; simp)]
  · have hs : 0 ≤ idx → sc = 1 ∨ sc = 2 ∨ sc = 4 ∨ sc = 8 := fun h => by omega
    have hf := fun (md : Int) (W : Nat) (hW : W ≤ 4) (n : Nat) (hn : 13 ≤ n) => pj2 2 0 base idx sc dp false 0 reg md W hW hr ⟨p1, p2⟩ ⟨p3, p4⟩ hs n hn
    have h8 := B.fits8 dp
    rw [if_neg (show ¬ ((2 : Int) = 1) by decide), if_neg (show ¬ (false = true) by decide), if_neg (show ¬ ((2 : Int) = 1) by decide), if_neg (show ¬ (false = true) by decide)]
    unfold B.formF
    by_cases hb : base < 0
    · rw [if_pos hb, if_pos hb]
      exact hf 0 4 (by decide) (m + 19) (by omega)
    rw [if_neg hb, if_neg hb]
    have hrest : ∀ n, 14 ≤ n → r8_Put.j1 n (B.lowF reg * 8 % 256) (B.highF reg * 4 % 256) 2 4 false 2 0 base idx sc dp false 0 = some (B.putMB reg base idx sc dp (if wrap64 (IntKind.i8.wrap dp) = dp then ((1 : Int), (1 : Int)) else (2, 4)).1 (if wrap64 (IntKind.i8.wrap dp) = dp then ((1 : Int), (1 : Int)) else (2, 4)).2.toNat, B.putMR reg base idx, 0) := by
      intro n hn
      obtain ⟨n, rfl⟩ : ∃ m, n = m + 1 := ⟨n - 1, by omega⟩
      rw [r8_Put.j1, if_neg (by decide)]
      by_cases hw : wrap64 (IntKind.i8.wrap dp) = dp
      · have := h8.1 hw
        rw [if_pos hw, if_pos (by omega), if_pos (by omega)]
        exact hf 1 1 (by decide) n (by omega)
      · have hn8 : ¬ (-128 ≤ dp ∧ dp < 128) := fun h => hw (h8.2 h)
        rw [if_neg hw]
        by_cases a : dp ≥ -128
        · rw [if_pos a, if_neg (by omega)]
          exact hf 2 4 (by decide) n (by omega)
        · rw [if_neg a]
          exact hf 2 4 (by decide) n (by omega)
    have hb7 := and7p base (by omega) p2
    have hlow := (B.low_high base (by omega) p2).1
    by_cases hz : dp = 0
    · rw [if_pos hz, hb7, hlow]
      by_cases h5 : base % 8 = 5
      · rw [if_neg (show ¬ (dp = 0 ∧ base % 8 ≠ 5) from fun h => h.2 h5), show (base % 8 != 5) = false by simp [h5]]
        exact hrest (m + 19) (by omega)
      · rw [if_pos ⟨hz, h5⟩, show (base % 8 != 5) = true by simp [h5], r8_Put.j1, if_pos rfl]
        exact hf 0 0 (by decide) (m + 18) (by omega)
    · rw [if_neg hz, if_neg (fun h => hz h.1)]
      exact hrest (m + 19) (by omega)
end Go.Proofs.YtppeidopijnnlaaDoor.C
namespace Go.Proofs.YtppeidopijnnlaaDoor.C
open Go.RowKit Go.Proofs.YtppeidopijnnlaaDoorW.PrintWords Go.Proofs.YtppeidopijnnlaaDoorW.PrintLast Go.Proofs.YtppeidopijnnlaaDoorW.PrintMore
attribute [local go_sem] max2_int min2_int max_two min_two max_three min_three max_four min_four   -- for this text's walks alone
set_option linter.unusedVariables false
set_option linter.unusedSimpArgs false
noncomputable def l8_same.f (l0 : List Int) (l1 : List Int) : Option (Bool) := some ((strOfNums l0).toList == (strOfNums l1).toList)
set_option maxHeartbeats 8000000 in
set_option maxRecDepth 100000 in
theorem l8_same.calls (A0 : Option Addr) (c0 : Nat) (l0 : List Int) (A1 : Option Addr) (c1 : Nat) (l1 : List Int) (r : Bool) (w : World) (hr0 : Kd.C (Kd.int .u8) w A0 l0.length l0) (hc0 : l0.length ≤ c0) (hr1 : Kd.C (Kd.int .u8) w A1 l1.length l1) (hc1 : l1.length ≤ c1) (h : l8_same.f l0 l1 = some r) :
    Calls Tryd.prog 14 #[.slice A0 l0.length c0, .slice A1 l1.length c1] w fun e w' => e = .returned (.bool r) ∧ Drawn0 w w' := by
  have HR0 := Aside0.mk hr0
  have HC0 := Aside0.mk hc0
  clear hr0 hc0
  have HR1 := Aside0.mk hr1
  have HC1 := Aside0.mk hc1
  clear hr1 hc1
  have H : (some ((strOfNums l0).toList == (strOfNums l1).toList)) = some r := h
  clear h
  obtain rfl := Option.some.inj H
  have hcv3 := Kd.C_string (P := Tryd.prog) (A := A0) (c := c0) Tryd.underlying24 Tryd.underlying5 Tryd.underlying9 HR0.out
  have hcv3_ := fun n_ => Kd.C_string (P := Tryd.prog) (A := A0) (c := c0) Tryd.underlying24 Tryd.underlying5 Tryd.underlying9 (Kd.C_drewN HR0.out n_)
  have hcv4 := Kd.C_string (P := Tryd.prog) (A := A1) (c := c1) Tryd.underlying24 Tryd.underlying5 Tryd.underlying9 HR1.out
  have hcv4_ := fun n_ => Kd.C_string (P := Tryd.prog) (A := A1) (c := c1) Tryd.underlying24 Tryd.underlying5 Tryd.underlying9 (Kd.C_drewN HR1.out n_)
  go_enter Tryd.func14, Tryd.ntmps14
  go_wp2
  go_ret
  exact ⟨by first | rfl | (simp; done) | (simp [*]; done), by repeat (first | exact Drawn0.refl _ | apply Drawn0.step)⟩
noncomputable def l8_ints.l0 : Nat → List Int → List Int → Int → Option (Bool)
  | 0, _, _, _ => none
  | k + 1, x0, x1, x5 => if x5 < (x0.length : Int) then (if 0 ≤ x5 then (if x5 < (x1.length : Int) then (if (rd x0 x5) = (rd x1 x5) then (l8_ints.l0 k x0 x1 (wrap64 (x5 + 1))) else (some false)) else (none)) else (none)) else (some true)
noncomputable def l8_ints.f (k : Nat) (l0 : List Int) (l1 : List Int) : Option (Bool) := if (l0.length : Int) = (l1.length : Int) then (l8_ints.l0 k l0 l1 0) else (some false)
set_option maxHeartbeats 8000000 in
set_option maxRecDepth 100000 in
theorem l8_ints.calls (k : Nat) (A0 : Option Addr) (c0 : Nat) (l0 : List Int) (A1 : Option Addr) (c1 : Nat) (l1 : List Int) (r : Bool) (w : World) (hr0 : Kd.C (Kd.int .i64) w A0 l0.length l0) (hc0 : l0.length ≤ c0) (hr1 : Kd.C (Kd.int .i64) w A1 l1.length l1) (hc1 : l1.length ≤ c1) (h : l8_ints.f k l0 l1 = some r) :
    Calls Tryd.prog 16 #[.slice A0 l0.length c0, .slice A1 l1.length c1] w fun e w' => e = .returned (.bool r) ∧ Drawn0 w w' := by
  have HR0 := Aside0.mk hr0
  have HC0 := Aside0.mk hc0
  clear hr0 hc0
  have HR1 := Aside0.mk hr1
  have HC1 := Aside0.mk hc1
  clear hr1 hc1
  have H : (if (l0.length : Int) = (l1.length : Int) then (l8_ints.l0 k l0 l1 0) else (some false)) = some r := h
  clear h
  by_cases c3 : (l0.length : Int) = (l1.length : Int)
  · rw [if_pos c3] at H
    have c3b0 : ((l0.length : Int) == (l1.length : Int)) = true := beq_iff_eq.mpr c3
    have c3b1 : ((l0.length : Int) != (l1.length : Int)) = false := bne_eq_false_iff_eq.mpr c3
    have c3b2 : (l0.length == l1.length) = true := by first | simpa using c3 | (simp at c3 ⊢; omega)
    clear c3
    have H' := Aside0.mk H
    clear H
    go_enter Tryd.func16, Tryd.ntmps16
    go_wp2
    repeat (go_quiet (fail); try go_wp2)
    go_loopg [5] k (fun kq v5 w' => ∃ (x5_1 : Int), v5 = .int .i64 x5_1 ∧ Aside0 (l8_ints.l0 kq l0 l1 x5_1 = some r) ∧ Aside0 (kq ≤ k) ∧ Drawn0 w w')
    case atStart => exact ⟨(0), (by first | rfl | (simp; done) | (simp [*]; done)), H', ⟨Nat.le_refl _⟩, by repeat (first | exact Drawn0.refl _ | apply Drawn0.step)⟩
    case round =>
      clear H'
      (try clear c1); (try clear p2); (try clear c3); (try clear c3b0); (try clear c3b1); (try clear c3b2)
      obtain ⟨x5_1, rfl, HA, HK1, ⟨m1, rfl⟩⟩ := hrel
      cases gk with
      | zero => exact absurd HA.out (by simp [l8_ints.l0])
      | succ k1 =>
        have H := HA.out
        clear HA
        simp only [l8_ints.l0] at H
        by_cases c4 : x5_1 < (l0.length : Int)
        · rw [if_pos c4] at H
          have c4b0 : decide (x5_1 < (l0.length : Int)) = true := decide_eq_true c4
          clear c4
          by_cases c5 : 0 ≤ x5_1
          · rw [if_pos c5] at H
            have c5b0 : decide (0 ≤ x5_1) = true := decide_eq_true c5
            clear c5
            by_cases c6 : x5_1 < (l1.length : Int)
            · rw [if_pos c6] at H
              have c6b0 : decide (x5_1 < (l1.length : Int)) = true := decide_eq_true c6
              clear c6
              by_cases c7 : (rd l0 x5_1) = (rd l1 x5_1)
              · rw [if_pos c7] at H
                have c7b0 : ((rd l0 x5_1) == (rd l1 x5_1)) = true := beq_iff_eq.mpr c7
                have c7b1 : ((rd l0 x5_1) != (rd l1 x5_1)) = false := bne_eq_false_iff_eq.mpr c7
                clear c7
                have H' := Aside0.mk H
                clear H
                have p239 : 0 ≤ (x5_1 : Int) := of_decide_eq_true (by first | (with_reducible assumption) | assumption)
                have q239 : x5_1 < (l0.length : Int) := of_decide_eq_true (by first | (with_reducible assumption) | assumption)
                obtain ⟨ad239, e239, hx239_0⟩ := Kd.at_int HR0.out x5_1 p239 q239
                cases e239
                replace p239 := eq_true p239
                replace q239 := eq_true q239
                have p240 : 0 ≤ (x5_1 : Int) := of_decide_eq_true (by first | (with_reducible assumption) | assumption)
                have q240 : x5_1 < (l1.length : Int) := of_decide_eq_true (by first | (with_reducible assumption) | assumption)
                obtain ⟨ad240, e240, hx240_0⟩ := Kd.at_int HR1.out x5_1 p240 q240
                cases e240
                replace p240 := eq_true p240
                replace q240 := eq_true q240
                go_wp2
                repeat (go_quiet (fail); try go_wp2)
                go_roundg k1
                case measure => have := HK1.out; omega
                case rel => exact ⟨(wrap64 (x5_1 + 1)), (by first | rfl | (simp; done) | (simp [*]; done)), H', ⟨by have := HK1.out; omega⟩, by repeat (first | exact Drawn0.refl _ | apply Drawn0.step)⟩
              · rw [if_neg c7] at H
                have c7b0 : ((rd l0 x5_1) == (rd l1 x5_1)) = false := beq_eq_false_iff_ne.mpr c7
                have c7b1 : ((rd l0 x5_1) != (rd l1 x5_1)) = true := bne_iff_ne.mpr c7
                obtain rfl := Option.some.inj H
                have p239 : 0 ≤ (x5_1 : Int) := of_decide_eq_true (by first | (with_reducible assumption) | assumption)
                have q239 : x5_1 < (l0.length : Int) := of_decide_eq_true (by first | (with_reducible assumption) | assumption)
                obtain ⟨ad239, e239, hx239_0⟩ := Kd.at_int HR0.out x5_1 p239 q239
                cases e239
                replace p239 := eq_true p239
                replace q239 := eq_true q239
                have p240 : 0 ≤ (x5_1 : Int) := of_decide_eq_true (by first | (with_reducible assumption) | assumption)
                have q240 : x5_1 < (l1.length : Int) := of_decide_eq_true (by first | (with_reducible assumption) | assumption)
                obtain ⟨ad240, e240, hx240_0⟩ := Kd.at_int HR1.out x5_1 p240 q240
                cases e240
                replace p240 := eq_true p240
                replace q240 := eq_true q240
                go_wp2
                repeat (go_quiet (fail); try go_wp2)
                go_ret
                exact ⟨by first | rfl | (simp; done) | (simp [*]; done), by repeat (first | exact Drawn0.refl _ | apply Drawn0.step)⟩
            · rw [if_neg c6] at H
              exact absurd H (by simp)
          · rw [if_neg c5] at H
            exact absurd H (by simp)
        · rw [if_neg c4] at H
          have c4b0 : decide (x5_1 < (l0.length : Int)) = false := decide_eq_false c4
          clear c4
          obtain rfl := Option.some.inj H
          go_wp2
          repeat (go_quiet (fail); try go_wp2)
          go_ret
          exact ⟨by first | rfl | (simp; done) | (simp [*]; done), by repeat (first | exact Drawn0.refl _ | apply Drawn0.step)⟩
  · rw [if_neg c3] at H
    have c3b0 : ((l0.length : Int) == (l1.length : Int)) = false := beq_eq_false_iff_ne.mpr c3
    have c3b1 : ((l0.length : Int) != (l1.length : Int)) = true := bne_iff_ne.mpr c3
    have c3b2 : (l0.length == l1.length) = false := by first | simpa using c3 | (simp at c3 ⊢; omega)
    obtain rfl := Option.some.inj H
    go_enter Tryd.func16, Tryd.ntmps16
    go_wp2
    repeat (go_quiet (fail); try go_wp2)
    go_ret
    exact ⟨by first | rfl | (simp; done) | (simp [*]; done), by repeat (first | exact Drawn0.refl _ | apply Drawn0.step)⟩
noncomputable def operand_Uses.f (a0_0 : Int) (a0_1 : Int) (a0_2 : Int) (a0_3 : Int) (a0_4 : Int) (a0_5 : Int) (a0_6 : Bool) (a0_7 : Int) : Option (List Int) := G.Uses a0_0 a0_1 a0_2 a0_3 a0_4 a0_5 a0_6 a0_7
theorem operand_Uses.calls (a0_0 : Int) (a0_1 : Int) (a0_2 : Int) (a0_3 : Int) (a0_4 : Int) (a0_5 : Int) (a0_6 : Bool) (a0_7 : Int) (r : List Int) (w : World) (h : operand_Uses.f a0_0 a0_1 a0_2 a0_3 a0_4 a0_5 a0_6 a0_7 = some r) :
    Calls Tryd.prog 17 #[.agg #[.int .u8 a0_0, .int .i64 a0_1, .int .i64 a0_2, .int .i64 a0_3, .int .i64 a0_4, .int .i64 a0_5, .bool a0_6, .int .i64 a0_7]] w fun e w' => ∃ v0_ : Value, e = .returned (v0_) ∧ Kd.R (Kd.int .i64) 3 w' w.heap.size (fun _ => True) v0_ r ∧ Below w.heap.size w w' :=
  G.Uses_calls a0_0 a0_1 a0_2 a0_3 a0_4 a0_5 a0_6 a0_7 r w h
noncomputable def r8_Uses.f (a0_0 : Int) (a0_1 : Int) (a0_2 : Int) (a0_3 : Int) (a0_4 : Int) (a0_5 : Int) (a0_6 : Bool) (a0_7 : Int) : Option (List Int) := if a0_0 = 2 then (if a0_2 ≥ 0 then (if ([] : List Int).length < 17592186044416 then ((some (([] : List Int) ++ [a0_2] : List Int)).bind fun y242 => (if a0_3 ≥ 0 then (if y242.length < 17592186044416 then (some (y242 ++ [a0_3])) else (none)) else (some y242))) else (none)) else (if a0_3 ≥ 0 then (if ([] : List Int).length < 17592186044416 then (some (([] : List Int) ++ [a0_3])) else (none)) else (some ([] : List Int)))) else (some ([] : List Int))
set_option maxHeartbeats 8000000 in
set_option maxRecDepth 100000 in
theorem r8_Uses.calls (a0_0 : Int) (a0_1 : Int) (a0_2 : Int) (a0_3 : Int) (a0_4 : Int) (a0_5 : Int) (a0_6 : Bool) (a0_7 : Int) (r : List Int) (w : World) (h : r8_Uses.f a0_0 a0_1 a0_2 a0_3 a0_4 a0_5 a0_6 a0_7 = some r) :
    Calls Tryd.prog 18 #[.agg #[.int .u8 a0_0, .int .i64 a0_1, .int .i64 a0_2, .int .i64 a0_3, .int .i64 a0_4, .int .i64 a0_5, .bool a0_6, .int .i64 a0_7]] w fun e w' => ∃ v0_ : Value, e = .returned (v0_) ∧ Kd.R (Kd.int .i64) 3 w' w.heap.size (fun _ => True) v0_ r ∧ Below w.heap.size w w' := by
  have hu23 := Tryd.underlying23
  have HB := Aside0.mk (Below.refl w.heap.size w)
  have H : (if a0_0 = 2 then (if a0_2 ≥ 0 then (if ([] : List Int).length < 17592186044416 then ((some (([] : List Int) ++ [a0_2] : List Int)).bind fun y242 => (if a0_3 ≥ 0 then (if y242.length < 17592186044416 then (some (y242 ++ [a0_3])) else (none)) else (some y242))) else (none)) else (if a0_3 ≥ 0 then (if ([] : List Int).length < 17592186044416 then (some (([] : List Int) ++ [a0_3])) else (none)) else (some ([] : List Int)))) else (some ([] : List Int))) = some r := h
  clear h
  by_cases c2 : a0_0 = 2
  · rw [if_pos c2] at H
    have c2b0 : (a0_0 == 2) = true := beq_iff_eq.mpr c2
    have c2b1 : (a0_0 != 2) = false := bne_eq_false_iff_eq.mpr c2
    clear c2
    by_cases c3 : a0_2 ≥ 0
    · rw [if_pos c3] at H
      have c3b0 : decide (0 ≤ a0_2) = true := decide_eq_true c3
      clear c3
      by_cases c4 : ([] : List Int).length < 17592186044416
      · rw [if_pos c4] at H
        have LMc4 := Aside0.mk c4
        clear c4
        obtain ⟨y242, hy242⟩ : ∃ y_ : List Int, y_ = (([] : List Int) ++ [a0_2]) := ⟨_, rfl⟩
        replace H : (if a0_3 ≥ 0 then (if y242.length < 17592186044416 then (some (y242 ++ [a0_3])) else (none)) else (some y242)) = some r := by first | (rw [hy242]; with_reducible exact H) | (have H2_ := (Option.bind_some _ _).symm.trans H; rw [hy242]; with_reducible exact H2_) | (have H2_ := (Option.bind_some _ _).symm.trans H; with_reducible exact H2_) | with_reducible exact H | (rw [hy242]; exact H) | exact H
        have Ny242 := Aside0.mk hy242
        clear hy242
        by_cases c5 : a0_3 ≥ 0
        · rw [if_pos c5] at H
          have c5b0 : decide (0 ≤ a0_3) = true := decide_eq_true c5
          clear c5
          by_cases c6 : y242.length < 17592186044416
          · rw [if_pos c6] at H
            have LMc6 := Aside0.mk c6
            clear c6
            obtain ⟨y245, hy245⟩ : ∃ y_ : List Int, y_ = (y242 ++ [a0_3]) := ⟨_, rfl⟩
            replace H : (some y245) = some r := by first | (rw [hy245]; with_reducible exact H) | (have H2_ := (Option.bind_some _ _).symm.trans H; rw [hy245]; with_reducible exact H2_) | (have H2_ := (Option.bind_some _ _).symm.trans H; with_reducible exact H2_) | with_reducible exact H | (rw [hy245]; exact H) | exact H
            have Ny245 := Aside0.mk hy245
            clear hy245
            obtain rfl := Option.some.inj H
            go_enter Tryd.func18, Tryd.ntmps18
            go_wp2_with (first | ((with_reducible refine gate_dst (N := 1) rfl ?_); refine box_event ?hg (N := 1) ?hd (cs := #[.int .u8 a0_0, .int .i64 a0_1, .int .i64 a0_2, .int .i64 a0_3, .int .i64 a0_4, .int .i64 a0_5, .bool a0_6, .int .i64 a0_7]) (t := 23) ?hr ?_; (case hd => rfl); (case hg => rfl); (case hr => first | (go_simp; done) | (go_simp; rfl)); intro gb241 hg w7 hbox hb; have n0_ := Aside0.mk (below_step (by repeat (first | (with_reducible first | exact HB.out | apply bX_ | apply bW_ | apply bY_) | exact HB.out)) hb); have n1_ := Aside0.mk (hbox); have n2_ := Aside0.mk ((by rw [hg]; exact (below_size (by repeat (first | (with_reducible first | exact HB.out | apply bX_ | apply bW_ | apply bY_) | exact HB.out))) : w.heap.size ≤ gb241)); have n3_ := Aside0.mk ((by rw [hg]; exact (below_size (by repeat (first | (with_reducible first | exact HB.out | apply bX_ | apply bW_ | apply bY_) | exact HB.out))) : w.heap.size ≤ gb241)); clear HB; have HB := n0_; have BK241 := n1_; have GW241 := n2_; have GE241 := n3_; clear n0_ n1_ n2_ n3_; clear hb hbox hg; have hcz8_0 : w7.cell? ⟨gb241, 0, none⟩ = some (.int .u8 a0_0) := (bC_ BK241.out 0).trans rfl; have hcz8_1 : w7.cell? ⟨gb241, 1, none⟩ = some (.int .i64 a0_1) := (bC_ BK241.out 1).trans rfl; have hcz8_2 : w7.cell? ⟨gb241, 2, none⟩ = some (.int .i64 a0_2) := (bC_ BK241.out 2).trans rfl; have hcz8_3 : w7.cell? ⟨gb241, 3, none⟩ = some (.int .i64 a0_3) := (bC_ BK241.out 3).trans rfl; have hcz8_4 : w7.cell? ⟨gb241, 4, none⟩ = some (.int .i64 a0_4) := (bC_ BK241.out 4).trans rfl; have hcz8_5 : w7.cell? ⟨gb241, 5, none⟩ = some (.int .i64 a0_5) := (bC_ BK241.out 5).trans rfl; have hcz8_6 : w7.cell? ⟨gb241, 6, none⟩ = some (.bool a0_6) := (bC_ BK241.out 6).trans rfl; have hcz8_7 : w7.cell? ⟨gb241, 7, none⟩ = some (.int .i64 a0_7) := (bC_ BK241.out 7).trans rfl; have hfz8_0 := bF_ BK241.out 0; have hfz8_1 := bF_ BK241.out 1; have hfz8_2 := bF_ BK241.out 2; have hfz8_3 := bF_ BK241.out 3; have hfz8_4 := bF_ BK241.out 4; have hfz8_5 := bF_ BK241.out 5; have hfz8_6 := bF_ BK241.out 6; have hfz8_7 := bF_ BK241.out 7) | ((with_reducible refine gate_builtin (b := .append) (xs := #[.tmp 10, .tmp 13]) rfl ?_); at_builtin; refine Kd.R_append (Kd.int .i64) (w0 := w) w.heap.size rfl (.tmp 10) (.tmp 13) 37 3 (.int .i64 0) 8 rfl Tryd.underlying37 info3 rfl (by decide) (by omega) (.slice none 0 0) ([] : List Int) a0_2 [.int .i64 a0_2] (fun _ => True) (fun _ => False) rfl rfl ?aP (fun _ hk => hk.elim) ?aF ?aO ?aB ?aS ?aL ?_; (case aP => exact rfl); (case aB => exact (by repeat (first | (with_reducible first | exact HB.out | apply bX_ | apply bW_ | apply bY_ | refine bS_ ?_ GE241.out) | exact HB.out))); (case aF => exact (fun _ _ => trivial)); (case aO => exact ((Kd.R_nil _ _ _ _ (fun _ => True)))); (case aS => exact (below_size (by repeat (first | (with_reducible first | exact HB.out | apply bX_ | apply bW_ | apply bY_ | refine bS_ ?_ GE241.out) | exact HB.out)))); (case aL => have := LMc4.out; omega); intro v243 w9 ho hb hg hat; rw [← Ny242.out] at ho; have n0_ := Aside0.mk (blk_grown (g := gb241) (o := .cells #[.int .u8 a0_0, .int .i64 a0_1, .int .i64 a0_2, .int .i64 a0_3, .int .i64 a0_4, .int .i64 a0_5, .bool a0_6, .int .i64 a0_7] 23 (0, 0)) (by (with_reducible repeat (first | refine bN_ ?_ _ | refine bD_ ?_ | refine bA_ ?_ _)); exact BK241.out) hg (by simp [Value.ownBlock])); have n1_ := Aside0.mk (hb); have n2_ := Aside0.mk (ho); clear BK241; clear HB; have BK241 := n0_; have HB := n1_; have HO244 := n2_; clear n0_ n1_ n2_; clear ho hb hg hat; have hcz10_0 : w9.cell? ⟨gb241, 0, none⟩ = some (.int .u8 a0_0) := (bC_ BK241.out 0).trans rfl; have hcz10_1 : w9.cell? ⟨gb241, 1, none⟩ = some (.int .i64 a0_1) := (bC_ BK241.out 1).trans rfl; have hcz10_2 : w9.cell? ⟨gb241, 2, none⟩ = some (.int .i64 a0_2) := (bC_ BK241.out 2).trans rfl; have hcz10_3 : w9.cell? ⟨gb241, 3, none⟩ = some (.int .i64 a0_3) := (bC_ BK241.out 3).trans rfl; have hcz10_4 : w9.cell? ⟨gb241, 4, none⟩ = some (.int .i64 a0_4) := (bC_ BK241.out 4).trans rfl; have hcz10_5 : w9.cell? ⟨gb241, 5, none⟩ = some (.int .i64 a0_5) := (bC_ BK241.out 5).trans rfl; have hcz10_6 : w9.cell? ⟨gb241, 6, none⟩ = some (.bool a0_6) := (bC_ BK241.out 6).trans rfl; have hcz10_7 : w9.cell? ⟨gb241, 7, none⟩ = some (.int .i64 a0_7) := (bC_ BK241.out 7).trans rfl; have hfz10_0 := bF_ BK241.out 0; have hfz10_1 := bF_ BK241.out 1; have hfz10_2 := bF_ BK241.out 2; have hfz10_3 := bF_ BK241.out 3; have hfz10_4 := bF_ BK241.out 4; have hfz10_5 := bF_ BK241.out 5; have hfz10_6 := bF_ BK241.out 6; have hfz10_7 := bF_ BK241.out 7) | ((with_reducible refine gate_builtin (b := .append) (xs := #[.tmp 18, .tmp 21]) rfl ?_); at_builtin; refine Kd.R_append (Kd.int .i64) (w0 := w) w.heap.size rfl (.tmp 18) (.tmp 21) 37 3 (.int .i64 0) 8 rfl Tryd.underlying37 info3 rfl (by decide) (by omega) v243 y242 a0_3 [.int .i64 a0_3] (fun _ => True) (fun _ => False) rfl rfl ?aP (fun _ hk => hk.elim) ?aF ?aO ?aB ?aS ?aL ?_; (case aP => exact rfl); (case aB => exact (by repeat (first | (with_reducible first | exact HB.out | apply bX_ | apply bW_ | apply bY_ | refine bS_ ?_ GE241.out) | exact HB.out))); (case aF => exact (fun _ _ => trivial)); (case aO => exact (by (with_reducible repeat (first | apply Kd.R_alloc | apply Kd.R_drewN | apply Kd.R_drew)); exact HO244.out)); (case aS => exact (below_size (by repeat (first | (with_reducible first | exact HB.out | apply bX_ | apply bW_ | apply bY_ | refine bS_ ?_ GE241.out) | exact HB.out)))); (case aL => have := LMc6.out; omega); intro v246 w11 ho hb hg hat; rw [← Ny245.out] at ho; have n0_ := Aside0.mk (blk_grown (g := gb241) (o := .cells #[.int .u8 a0_0, .int .i64 a0_1, .int .i64 a0_2, .int .i64 a0_3, .int .i64 a0_4, .int .i64 a0_5, .bool a0_6, .int .i64 a0_7] 23 (0, 0)) (by (with_reducible repeat (first | refine bN_ ?_ _ | refine bD_ ?_ | refine bA_ ?_ _)); exact BK241.out) hg (Kd.R_ne HO244.out BK241.out (by decide))); have n1_ := Aside0.mk (hb); have n2_ := Aside0.mk (ho); clear BK241; clear HB; clear HO244; have BK241 := n0_; have HB := n1_; have HO247 := n2_; clear n0_ n1_ n2_; clear ho hb hg hat))
            go_ret
            exact ⟨_, by first | rfl | (simp [errW_none, errW_some] <;> rfl) | (simp [*, errW_none, errW_some] <;> rfl), by (with_reducible repeat (first | apply Kd.R_alloc | apply Kd.R_drewN | apply Kd.R_drew)); exact HO247.out, by repeat (first | (with_reducible first | exact HB.out | apply bX_ | apply bW_ | apply bY_ | refine bS_ ?_ GE241.out) | exact HB.out)⟩
          · rw [if_neg c6] at H
            exact absurd H (by simp)
        · rw [if_neg c5] at H
          have c5b0 : decide (0 ≤ a0_3) = false := decide_eq_false c5
          clear c5
          obtain rfl := Option.some.inj H
          go_enter Tryd.func18, Tryd.ntmps18
          go_wp2_with (first | ((with_reducible refine gate_dst (N := 1) rfl ?_); refine box_event ?hg (N := 1) ?hd (cs := #[.int .u8 a0_0, .int .i64 a0_1, .int .i64 a0_2, .int .i64 a0_3, .int .i64 a0_4, .int .i64 a0_5, .bool a0_6, .int .i64 a0_7]) (t := 23) ?hr ?_; (case hd => rfl); (case hg => rfl); (case hr => first | (go_simp; done) | (go_simp; rfl)); intro gb241 hg w12 hbox hb; have n0_ := Aside0.mk (below_step (by repeat (first | (with_reducible first | exact HB.out | apply bX_ | apply bW_ | apply bY_) | exact HB.out)) hb); have n1_ := Aside0.mk (hbox); have n2_ := Aside0.mk ((by rw [hg]; exact (below_size (by repeat (first | (with_reducible first | exact HB.out | apply bX_ | apply bW_ | apply bY_) | exact HB.out))) : w.heap.size ≤ gb241)); have n3_ := Aside0.mk ((by rw [hg]; exact (below_size (by repeat (first | (with_reducible first | exact HB.out | apply bX_ | apply bW_ | apply bY_) | exact HB.out))) : w.heap.size ≤ gb241)); clear HB; have HB := n0_; have BK241 := n1_; have GW241 := n2_; have GE241 := n3_; clear n0_ n1_ n2_ n3_; clear hb hbox hg; have hcz13_0 : w12.cell? ⟨gb241, 0, none⟩ = some (.int .u8 a0_0) := (bC_ BK241.out 0).trans rfl; have hcz13_1 : w12.cell? ⟨gb241, 1, none⟩ = some (.int .i64 a0_1) := (bC_ BK241.out 1).trans rfl; have hcz13_2 : w12.cell? ⟨gb241, 2, none⟩ = some (.int .i64 a0_2) := (bC_ BK241.out 2).trans rfl; have hcz13_3 : w12.cell? ⟨gb241, 3, none⟩ = some (.int .i64 a0_3) := (bC_ BK241.out 3).trans rfl; have hcz13_4 : w12.cell? ⟨gb241, 4, none⟩ = some (.int .i64 a0_4) := (bC_ BK241.out 4).trans rfl; have hcz13_5 : w12.cell? ⟨gb241, 5, none⟩ = some (.int .i64 a0_5) := (bC_ BK241.out 5).trans rfl; have hcz13_6 : w12.cell? ⟨gb241, 6, none⟩ = some (.bool a0_6) := (bC_ BK241.out 6).trans rfl; have hcz13_7 : w12.cell? ⟨gb241, 7, none⟩ = some (.int .i64 a0_7) := (bC_ BK241.out 7).trans rfl; have hfz13_0 := bF_ BK241.out 0; have hfz13_1 := bF_ BK241.out 1; have hfz13_2 := bF_ BK241.out 2; have hfz13_3 := bF_ BK241.out 3; have hfz13_4 := bF_ BK241.out 4; have hfz13_5 := bF_ BK241.out 5; have hfz13_6 := bF_ BK241.out 6; have hfz13_7 := bF_ BK241.out 7) | ((with_reducible refine gate_builtin (b := .append) (xs := #[.tmp 10, .tmp 13]) rfl ?_); at_builtin; refine Kd.R_append (Kd.int .i64) (w0 := w) w.heap.size rfl (.tmp 10) (.tmp 13) 37 3 (.int .i64 0) 8 rfl Tryd.underlying37 info3 rfl (by decide) (by omega) (.slice none 0 0) ([] : List Int) a0_2 [.int .i64 a0_2] (fun _ => True) (fun _ => False) rfl rfl ?aP (fun _ hk => hk.elim) ?aF ?aO ?aB ?aS ?aL ?_; (case aP => exact rfl); (case aB => exact (by repeat (first | (with_reducible first | exact HB.out | apply bX_ | apply bW_ | apply bY_ | refine bS_ ?_ GE241.out) | exact HB.out))); (case aF => exact (fun _ _ => trivial)); (case aO => exact ((Kd.R_nil _ _ _ _ (fun _ => True)))); (case aS => exact (below_size (by repeat (first | (with_reducible first | exact HB.out | apply bX_ | apply bW_ | apply bY_ | refine bS_ ?_ GE241.out) | exact HB.out)))); (case aL => have := LMc4.out; omega); intro v243 w14 ho hb hg hat; rw [← Ny242.out] at ho; have n0_ := Aside0.mk (blk_grown (g := gb241) (o := .cells #[.int .u8 a0_0, .int .i64 a0_1, .int .i64 a0_2, .int .i64 a0_3, .int .i64 a0_4, .int .i64 a0_5, .bool a0_6, .int .i64 a0_7] 23 (0, 0)) (by (with_reducible repeat (first | refine bN_ ?_ _ | refine bD_ ?_ | refine bA_ ?_ _)); exact BK241.out) hg (by simp [Value.ownBlock])); have n1_ := Aside0.mk (hb); have n2_ := Aside0.mk (ho); clear BK241; clear HB; have BK241 := n0_; have HB := n1_; have HO244 := n2_; clear n0_ n1_ n2_; clear ho hb hg hat; have hcz15_0 : w14.cell? ⟨gb241, 0, none⟩ = some (.int .u8 a0_0) := (bC_ BK241.out 0).trans rfl; have hcz15_1 : w14.cell? ⟨gb241, 1, none⟩ = some (.int .i64 a0_1) := (bC_ BK241.out 1).trans rfl; have hcz15_2 : w14.cell? ⟨gb241, 2, none⟩ = some (.int .i64 a0_2) := (bC_ BK241.out 2).trans rfl; have hcz15_3 : w14.cell? ⟨gb241, 3, none⟩ = some (.int .i64 a0_3) := (bC_ BK241.out 3).trans rfl; have hcz15_4 : w14.cell? ⟨gb241, 4, none⟩ = some (.int .i64 a0_4) := (bC_ BK241.out 4).trans rfl; have hcz15_5 : w14.cell? ⟨gb241, 5, none⟩ = some (.int .i64 a0_5) := (bC_ BK241.out 5).trans rfl; have hcz15_6 : w14.cell? ⟨gb241, 6, none⟩ = some (.bool a0_6) := (bC_ BK241.out 6).trans rfl; have hcz15_7 : w14.cell? ⟨gb241, 7, none⟩ = some (.int .i64 a0_7) := (bC_ BK241.out 7).trans rfl; have hfz15_0 := bF_ BK241.out 0; have hfz15_1 := bF_ BK241.out 1; have hfz15_2 := bF_ BK241.out 2; have hfz15_3 := bF_ BK241.out 3; have hfz15_4 := bF_ BK241.out 4; have hfz15_5 := bF_ BK241.out 5; have hfz15_6 := bF_ BK241.out 6; have hfz15_7 := bF_ BK241.out 7))
          go_ret
          exact ⟨_, by first | rfl | (simp [errW_none, errW_some] <;> rfl) | (simp [*, errW_none, errW_some] <;> rfl), by (with_reducible repeat (first | apply Kd.R_alloc | apply Kd.R_drewN | apply Kd.R_drew)); exact HO244.out, by repeat (first | (with_reducible first | exact HB.out | apply bX_ | apply bW_ | apply bY_ | refine bS_ ?_ GE241.out) | exact HB.out)⟩
      · rw [if_neg c4] at H
        exact absurd H (by simp)
    · rw [if_neg c3] at H
      have c3b0 : decide (0 ≤ a0_2) = false := decide_eq_false c3
      clear c3
      by_cases c16 : a0_3 ≥ 0
      · rw [if_pos c16] at H
        have c16b0 : decide (0 ≤ a0_3) = true := decide_eq_true c16
        clear c16
        by_cases c17 : ([] : List Int).length < 17592186044416
        · rw [if_pos c17] at H
          have LMc17 := Aside0.mk c17
          clear c17
          obtain ⟨y248, hy248⟩ : ∃ y_ : List Int, y_ = (([] : List Int) ++ [a0_3]) := ⟨_, rfl⟩
          replace H : (some y248) = some r := by first | (rw [hy248]; with_reducible exact H) | (have H2_ := (Option.bind_some _ _).symm.trans H; rw [hy248]; with_reducible exact H2_) | (have H2_ := (Option.bind_some _ _).symm.trans H; with_reducible exact H2_) | with_reducible exact H | (rw [hy248]; exact H) | exact H
          have Ny248 := Aside0.mk hy248
          clear hy248
          obtain rfl := Option.some.inj H
          go_enter Tryd.func18, Tryd.ntmps18
          go_wp2_with (first | ((with_reducible refine gate_dst (N := 1) rfl ?_); refine box_event ?hg (N := 1) ?hd (cs := #[.int .u8 a0_0, .int .i64 a0_1, .int .i64 a0_2, .int .i64 a0_3, .int .i64 a0_4, .int .i64 a0_5, .bool a0_6, .int .i64 a0_7]) (t := 23) ?hr ?_; (case hd => rfl); (case hg => rfl); (case hr => first | (go_simp; done) | (go_simp; rfl)); intro gb241 hg w18 hbox hb; have n0_ := Aside0.mk (below_step (by repeat (first | (with_reducible first | exact HB.out | apply bX_ | apply bW_ | apply bY_) | exact HB.out)) hb); have n1_ := Aside0.mk (hbox); have n2_ := Aside0.mk ((by rw [hg]; exact (below_size (by repeat (first | (with_reducible first | exact HB.out | apply bX_ | apply bW_ | apply bY_) | exact HB.out))) : w.heap.size ≤ gb241)); have n3_ := Aside0.mk ((by rw [hg]; exact (below_size (by repeat (first | (with_reducible first | exact HB.out | apply bX_ | apply bW_ | apply bY_) | exact HB.out))) : w.heap.size ≤ gb241)); clear HB; have HB := n0_; have BK241 := n1_; have GW241 := n2_; have GE241 := n3_; clear n0_ n1_ n2_ n3_; clear hb hbox hg; have hcz19_0 : w18.cell? ⟨gb241, 0, none⟩ = some (.int .u8 a0_0) := (bC_ BK241.out 0).trans rfl; have hcz19_1 : w18.cell? ⟨gb241, 1, none⟩ = some (.int .i64 a0_1) := (bC_ BK241.out 1).trans rfl; have hcz19_2 : w18.cell? ⟨gb241, 2, none⟩ = some (.int .i64 a0_2) := (bC_ BK241.out 2).trans rfl; have hcz19_3 : w18.cell? ⟨gb241, 3, none⟩ = some (.int .i64 a0_3) := (bC_ BK241.out 3).trans rfl; have hcz19_4 : w18.cell? ⟨gb241, 4, none⟩ = some (.int .i64 a0_4) := (bC_ BK241.out 4).trans rfl; have hcz19_5 : w18.cell? ⟨gb241, 5, none⟩ = some (.int .i64 a0_5) := (bC_ BK241.out 5).trans rfl; have hcz19_6 : w18.cell? ⟨gb241, 6, none⟩ = some (.bool a0_6) := (bC_ BK241.out 6).trans rfl; have hcz19_7 : w18.cell? ⟨gb241, 7, none⟩ = some (.int .i64 a0_7) := (bC_ BK241.out 7).trans rfl; have hfz19_0 := bF_ BK241.out 0; have hfz19_1 := bF_ BK241.out 1; have hfz19_2 := bF_ BK241.out 2; have hfz19_3 := bF_ BK241.out 3; have hfz19_4 := bF_ BK241.out 4; have hfz19_5 := bF_ BK241.out 5; have hfz19_6 := bF_ BK241.out 6; have hfz19_7 := bF_ BK241.out 7) | ((with_reducible refine gate_builtin (b := .append) (xs := #[.tmp 18, .tmp 21]) rfl ?_); at_builtin; refine Kd.R_append (Kd.int .i64) (w0 := w) w.heap.size rfl (.tmp 18) (.tmp 21) 37 3 (.int .i64 0) 8 rfl Tryd.underlying37 info3 rfl (by decide) (by omega) (.slice none 0 0) ([] : List Int) a0_3 [.int .i64 a0_3] (fun _ => True) (fun _ => False) rfl rfl ?aP (fun _ hk => hk.elim) ?aF ?aO ?aB ?aS ?aL ?_; (case aP => exact rfl); (case aB => exact (by repeat (first | (with_reducible first | exact HB.out | apply bX_ | apply bW_ | apply bY_ | refine bS_ ?_ GE241.out) | exact HB.out))); (case aF => exact (fun _ _ => trivial)); (case aO => exact ((Kd.R_nil _ _ _ _ (fun _ => True)))); (case aS => exact (below_size (by repeat (first | (with_reducible first | exact HB.out | apply bX_ | apply bW_ | apply bY_ | refine bS_ ?_ GE241.out) | exact HB.out)))); (case aL => have := LMc17.out; omega); intro v249 w20 ho hb hg hat; rw [← Ny248.out] at ho; have n0_ := Aside0.mk (blk_grown (g := gb241) (o := .cells #[.int .u8 a0_0, .int .i64 a0_1, .int .i64 a0_2, .int .i64 a0_3, .int .i64 a0_4, .int .i64 a0_5, .bool a0_6, .int .i64 a0_7] 23 (0, 0)) (by (with_reducible repeat (first | refine bN_ ?_ _ | refine bD_ ?_ | refine bA_ ?_ _)); exact BK241.out) hg (by simp [Value.ownBlock])); have n1_ := Aside0.mk (hb); have n2_ := Aside0.mk (ho); clear BK241; clear HB; have BK241 := n0_; have HB := n1_; have HO250 := n2_; clear n0_ n1_ n2_; clear ho hb hg hat))
          go_ret
          exact ⟨_, by first | rfl | (simp [errW_none, errW_some] <;> rfl) | (simp [*, errW_none, errW_some] <;> rfl), by (with_reducible repeat (first | apply Kd.R_alloc | apply Kd.R_drewN | apply Kd.R_drew)); exact HO250.out, by repeat (first | (with_reducible first | exact HB.out | apply bX_ | apply bW_ | apply bY_ | refine bS_ ?_ GE241.out) | exact HB.out)⟩
        · rw [if_neg c17] at H
          exact absurd H (by simp)
      · rw [if_neg c16] at H
        have c16b0 : decide (0 ≤ a0_3) = false := decide_eq_false c16
        clear c16
        obtain rfl := Option.some.inj H
        go_enter Tryd.func18, Tryd.ntmps18
        go_wp2_with (first | ((with_reducible refine gate_dst (N := 1) rfl ?_); refine box_event ?hg (N := 1) ?hd (cs := #[.int .u8 a0_0, .int .i64 a0_1, .int .i64 a0_2, .int .i64 a0_3, .int .i64 a0_4, .int .i64 a0_5, .bool a0_6, .int .i64 a0_7]) (t := 23) ?hr ?_; (case hd => rfl); (case hg => rfl); (case hr => first | (go_simp; done) | (go_simp; rfl)); intro gb241 hg w21 hbox hb; have n0_ := Aside0.mk (below_step (by repeat (first | (with_reducible first | exact HB.out | apply bX_ | apply bW_ | apply bY_) | exact HB.out)) hb); have n1_ := Aside0.mk (hbox); have n2_ := Aside0.mk ((by rw [hg]; exact (below_size (by repeat (first | (with_reducible first | exact HB.out | apply bX_ | apply bW_ | apply bY_) | exact HB.out))) : w.heap.size ≤ gb241)); have n3_ := Aside0.mk ((by rw [hg]; exact (below_size (by repeat (first | (with_reducible first | exact HB.out | apply bX_ | apply bW_ | apply bY_) | exact HB.out))) : w.heap.size ≤ gb241)); clear HB; have HB := n0_; have BK241 := n1_; have GW241 := n2_; have GE241 := n3_; clear n0_ n1_ n2_ n3_; clear hb hbox hg; have hcz22_0 : w21.cell? ⟨gb241, 0, none⟩ = some (.int .u8 a0_0) := (bC_ BK241.out 0).trans rfl; have hcz22_1 : w21.cell? ⟨gb241, 1, none⟩ = some (.int .i64 a0_1) := (bC_ BK241.out 1).trans rfl; have hcz22_2 : w21.cell? ⟨gb241, 2, none⟩ = some (.int .i64 a0_2) := (bC_ BK241.out 2).trans rfl; have hcz22_3 : w21.cell? ⟨gb241, 3, none⟩ = some (.int .i64 a0_3) := (bC_ BK241.out 3).trans rfl; have hcz22_4 : w21.cell? ⟨gb241, 4, none⟩ = some (.int .i64 a0_4) := (bC_ BK241.out 4).trans rfl; have hcz22_5 : w21.cell? ⟨gb241, 5, none⟩ = some (.int .i64 a0_5) := (bC_ BK241.out 5).trans rfl; have hcz22_6 : w21.cell? ⟨gb241, 6, none⟩ = some (.bool a0_6) := (bC_ BK241.out 6).trans rfl; have hcz22_7 : w21.cell? ⟨gb241, 7, none⟩ = some (.int .i64 a0_7) := (bC_ BK241.out 7).trans rfl; have hfz22_0 := bF_ BK241.out 0; have hfz22_1 := bF_ BK241.out 1; have hfz22_2 := bF_ BK241.out 2; have hfz22_3 := bF_ BK241.out 3; have hfz22_4 := bF_ BK241.out 4; have hfz22_5 := bF_ BK241.out 5; have hfz22_6 := bF_ BK241.out 6; have hfz22_7 := bF_ BK241.out 7))
        go_ret
        exact ⟨_, by first | rfl | (simp [errW_none, errW_some] <;> rfl) | (simp [*, errW_none, errW_some] <;> rfl), by first | exact Kd.R_nil _ _ _ _ _ | exact Kd.N_nil _ _ _ _ _ | exact Kd.V_nil _ _ _ _ _ | exact Kd.Q_nil _ _ _ _ _ | exact Kd.S_nil _ _ _ _ _, by repeat (first | (with_reducible first | exact HB.out | apply bX_ | apply bW_ | apply bY_ | refine bS_ ?_ GE241.out) | exact HB.out)⟩
  · rw [if_neg c2] at H
    have c2b0 : (a0_0 == 2) = false := beq_eq_false_iff_ne.mpr c2
    have c2b1 : (a0_0 != 2) = true := bne_iff_ne.mpr c2
    obtain rfl := Option.some.inj H
    go_enter Tryd.func18, Tryd.ntmps18
    go_wp2_with (first | ((with_reducible refine gate_dst (N := 1) rfl ?_); refine box_event ?hg (N := 1) ?hd (cs := #[.int .u8 a0_0, .int .i64 a0_1, .int .i64 a0_2, .int .i64 a0_3, .int .i64 a0_4, .int .i64 a0_5, .bool a0_6, .int .i64 a0_7]) (t := 23) ?hr ?_; (case hd => rfl); (case hg => rfl); (case hr => first | (go_simp; done) | (go_simp; rfl)); intro gb241 hg w23 hbox hb; have n0_ := Aside0.mk (below_step (by repeat (first | (with_reducible first | exact HB.out | apply bX_ | apply bW_ | apply bY_) | exact HB.out)) hb); have n1_ := Aside0.mk (hbox); have n2_ := Aside0.mk ((by rw [hg]; exact (below_size (by repeat (first | (with_reducible first | exact HB.out | apply bX_ | apply bW_ | apply bY_) | exact HB.out))) : w.heap.size ≤ gb241)); have n3_ := Aside0.mk ((by rw [hg]; exact (below_size (by repeat (first | (with_reducible first | exact HB.out | apply bX_ | apply bW_ | apply bY_) | exact HB.out))) : w.heap.size ≤ gb241)); clear HB; have HB := n0_; have BK241 := n1_; have GW241 := n2_; have GE241 := n3_; clear n0_ n1_ n2_ n3_; clear hb hbox hg; have hcz24_0 : w23.cell? ⟨gb241, 0, none⟩ = some (.int .u8 a0_0) := (bC_ BK241.out 0).trans rfl; have hcz24_1 : w23.cell? ⟨gb241, 1, none⟩ = some (.int .i64 a0_1) := (bC_ BK241.out 1).trans rfl; have hcz24_2 : w23.cell? ⟨gb241, 2, none⟩ = some (.int .i64 a0_2) := (bC_ BK241.out 2).trans rfl; have hcz24_3 : w23.cell? ⟨gb241, 3, none⟩ = some (.int .i64 a0_3) := (bC_ BK241.out 3).trans rfl; have hcz24_4 : w23.cell? ⟨gb241, 4, none⟩ = some (.int .i64 a0_4) := (bC_ BK241.out 4).trans rfl; have hcz24_5 : w23.cell? ⟨gb241, 5, none⟩ = some (.int .i64 a0_5) := (bC_ BK241.out 5).trans rfl; have hcz24_6 : w23.cell? ⟨gb241, 6, none⟩ = some (.bool a0_6) := (bC_ BK241.out 6).trans rfl; have hcz24_7 : w23.cell? ⟨gb241, 7, none⟩ = some (.int .i64 a0_7) := (bC_ BK241.out 7).trans rfl; have hfz24_0 := bF_ BK241.out 0; have hfz24_1 := bF_ BK241.out 1; have hfz24_2 := bF_ BK241.out 2; have hfz24_3 := bF_ BK241.out 3; have hfz24_4 := bF_ BK241.out 4; have hfz24_5 := bF_ BK241.out 5; have hfz24_6 := bF_ BK241.out 6; have hfz24_7 := bF_ BK241.out 7))
    go_ret
    exact ⟨_, by first | rfl | (simp [errW_none, errW_some] <;> rfl) | (simp [*, errW_none, errW_some] <;> rfl), by first | exact Kd.R_nil _ _ _ _ _ | exact Kd.N_nil _ _ _ _ _ | exact Kd.V_nil _ _ _ _ _ | exact Kd.Q_nil _ _ _ _ _ | exact Kd.S_nil _ _ _ _ _, by repeat (first | (with_reducible first | exact HB.out | apply bX_ | apply bW_ | apply bY_ | refine bS_ ?_ GE241.out) | exact HB.out)⟩
end Go.Proofs.YtppeidopijnnlaaDoor.C
