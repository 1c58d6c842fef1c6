/- What operand.Take tells under another prefix, beside what it tells under none. What operand.Put tells is taken as it was, whatever stands behind; and less of it is nothing. What operand.Put tells is taken again as it was: the law of the two as numbers. The reference's Right says the same as the program's. The law OperandBack: its function tells true. -/
import Derived.Test.YtppeidopijnnlaaDoorBq4
import Derived.Test.YtppeidopijnnlaaDoorBq7
import Derived.Laws.BitsLemmas
import Derived.Test.YtppeidopijnnlaaDoorBq11
import Derived.Test.YtppeidopijnnlaaDoorBq10
namespace Go.Proofs.YtppeidopijnnlaaDoor.B
open Go.RowKit Go.Proofs.YtppeidopijnnlaaDoorW.PrintWords Go.Proofs.YtppeidopijnnlaaDoorW.PrintMore Go.RF
set_option linter.unusedVariables false
set_option linter.unusedSimpArgs false
end Go.Proofs.YtppeidopijnnlaaDoor.B
namespace Go.Proofs.YtppeidopijnnlaaDoor.B
open Go.RowKit Go.Proofs.YtppeidopijnnlaaDoorW.PrintWords Go.Proofs.YtppeidopijnnlaaDoorW.PrintMore Go.RF
set_option linter.unusedVariables false
set_option linter.unusedSimpArgs false
theorem wrap_i8 (n : Int) : IntKind.i8.wrap n = (n + 128) % 256 - 128 := by
  simp [IntKind.wrap, IntKind.bits, IntKind.signed]
  split <;> omega
theorem or_i64 (x y : Int) (hx : x % 256 = 0) (h0 : -9223372036854775808 ≤ x) (h1 : x < 9223372036854775808) (hy0 : 0 ≤ y) (hy : y < 256) : Go.bits .or .i64 x y = x + y := by
  obtain ⟨b, rfl⟩ := Int.eq_ofNat_of_zero_le hy0
  obtain ⟨a, ha⟩ := Int.eq_ofNat_of_zero_le (show 0 ≤ x % 18446744073709551616 by omega)
  have e1 : (BitVec.ofInt IntKind.i64.bits x).toNat = a := by
    rw [BitVec.toNat_ofInt]
    show (x % ((2 ^ 64 : Nat) : Int)).toNat = a
    rw [show ((2 ^ 64 : Nat) : Int) = 18446744073709551616 by decide]
    omega
  have e2 : (BitVec.ofInt IntKind.i64.bits (b : Int)).toNat = b := by
    rw [BitVec.toNat_ofInt]
    show ((b : Int) % ((2 ^ 64 : Nat) : Int)).toNat = b
    rw [show ((2 ^ 64 : Nat) : Int) = 18446744073709551616 by decide]
    omega
  have hor : a ||| b = a + b := by
    have hq : a = 2 ^ 8 * (a / 2 ^ 8) := by
      have : a % 256 = 0 := by omega
      omega
    rw [hq, ← Nat.two_pow_add_eq_or_of_lt (show b < 2 ^ 8 by omega) (a / 2 ^ 8)]
  simp only [Go.bits, BitVec.toNat_or, e1, e2, hor]
  rw [IntKind.wrap_i64]
  push_cast
  omega
theorem disp4 (x0 x1 x2 x3 : Int) (h0 : 0 ≤ x0 ∧ x0 < 256) (h1 : 0 ≤ x1 ∧ x1 < 256) (h2 : 0 ≤ x2 ∧ x2 < 256) (h3 : 0 ≤ x3 ∧ x3 < 256) :
    dispOf 4 [x0, x1, x2, x3] = ((x3 + 128) % 256 - 128) * 16777216 + x2 * 65536 + x1 * 256 + x0 := by
  have hd : ∀ d x : Int, -140737488355328 ≤ d → d ≤ 140737488355328 → 0 ≤ x → x < 256 → Go.bits .or .i64 (wrap64 (d * 256)) x = d * 256 + x := by
    intro d x a b c e
    have hw : wrap64 (d * 256) = d * 256 := by unfold wrap64; omega
    rw [hw]
    exact or_i64 _ _ (by omega) (by omega) (by omega) c e
  have hw : wrap64 (IntKind.i8.wrap x3) = (x3 + 128) % 256 - 128 := by rw [wrap_i8]; unfold wrap64; omega
  show dispStep 4 (dispStep 4 (dispStep 4 (dispStep 4 0 (3, x3)) (2, x2)) (1, x1)) (0, x0) = _
  have s3 : dispStep 4 0 (3, x3) = wrap64 (IntKind.i8.wrap x3) := if_pos (show ((3 : Nat) : Int) = 4 - 1 by decide)
  have s : ∀ (d : Int) (n : Nat) (x : Int), n < 3 → dispStep 4 d (n, x) = Go.bits .or .i64 (wrap64 (d * 256)) x := fun d n x h => if_neg (by show ¬ ((n : Int) = 4 - 1); omega)
  rw [s3, s _ 2 _ (by decide), s _ 1 _ (by decide), s _ 0 _ (by decide), hw]
  rw [hd _ x2 (by omega) (by omega) h2.1 h2.2, hd _ x1 (by omega) (by omega) h1.1 h1.2, hd _ x0 (by omega) (by omega) h0.1 h0.2]
  omega
theorem disp1 (x : Int) : dispOf 1 [x] = (x + 128) % 256 - 128 := by
  have hw : wrap64 (IntKind.i8.wrap x) = (x + 128) % 256 - 128 := by rw [wrap_i8]; unfold wrap64; omega
  show dispStep 1 0 (0, x) = _
  simp only [dispStep]
  rw [if_pos (by decide), hw]
theorem byteAt_eq (dp : Int) (j : Nat) : byteAt dp j = dp / 2 ^ (8 * j) % 256 := by unfold byteAt; rw [IntKind.wrap_u8]
theorem dispB4 (dp : Int) : dispB dp 4 = [dp % 256, dp / 256 % 256, dp / 65536 % 256, dp / 16777216 % 256] := by
  simp [dispB, List.range_succ, byteAt_eq]
theorem dispB1' (dp : Int) : dispB dp 1 = [dp % 256] := by
  simp [dispB, List.range_succ, byteAt_eq]
theorem back4 (dp : Int) (h0 : -2147483648 ≤ dp) (h1 : dp < 2147483648) : dispOf 4 (dispB dp 4) = dp := by
  rw [dispB4, disp4 _ _ _ _ (by omega) (by omega) (by omega) (by omega)]
  omega
theorem back1 (dp : Int) (h0 : -128 ≤ dp) (h1 : dp < 128) : dispOf 1 (dispB dp 1) = dp := by
  rw [dispB1', disp1]
  omega
theorem fits32 (dp : Int) : wrap64 (wrap32 dp) = dp ↔ -2147483648 ≤ dp ∧ dp < 2147483648 := by
  unfold wrap64 wrap32
  omega
theorem fits8 (dp : Int) : wrap64 (IntKind.i8.wrap dp) = dp ↔ -128 ≤ dp ∧ dp < 128 := by
  rw [wrap_i8]
  unfold wrap64
  omega
theorem low_cases : ∀ r : Fin 16, lowF (r.val : Int) = (r.val : Int) % 8 ∧ highF (r.val : Int) = (r.val : Int) / 8 := by decide +kernel
theorem fin_of {n : Nat} {P : Int → Prop} (h : ∀ r : Fin n, P (r.val : Int)) (x : Int) (h0 : 0 ≤ x) (h1 : x < n) : P x := by
  have e := h ⟨x.toNat, by omega⟩
  have : (((⟨x.toNat, by omega⟩ : Fin n).val : Nat) : Int) = x := by show ((x.toNat : Nat) : Int) = x; omega
  rw [this] at e
  exact e
theorem low_high (r : Int) (h0 : 0 ≤ r) (h1 : r < 16) : lowF r = r % 8 ∧ highF r = r / 8 := fin_of (n := 16) (P := fun r => lowF r = r % 8 ∧ highF r = r / 8) low_cases r h0 h1
theorem b_reg_cases : ∀ f : Fin 8, ∀ b : Fin 8, Go.bits .or .u8 (Go.bits .or .u8 192 ((f.val : Int) * 8 % 256)) (b.val : Int) = 192 + f.val * 8 + b.val := by decide +kernel
theorem b_mem_cases : ∀ m : Fin 3, ∀ f : Fin 8, ∀ b : Fin 8, Go.bits .or .u8 (Go.bits .or .u8 ((m.val : Int) * 64 % 256) ((f.val : Int) * 8 % 256)) (b.val : Int) = m.val * 64 + f.val * 8 + b.val := by decide +kernel
theorem b_rip_cases : ∀ f : Fin 8, Go.bits .or .u8 ((f.val : Int) * 8 % 256) 5 = (f.val : Int) * 8 + 5 := by decide +kernel
theorem b_sib_cases : ∀ s : Fin 4, ∀ i : Fin 8, ∀ b : Fin 8, Go.bits .or .u8 (Go.bits .or .u8 ((s.val : Int) % 256 * 64 % 256) ((i.val : Int) * 8 % 256)) (b.val : Int) = s.val * 64 + i.val * 8 + b.val := by decide +kernel
theorem r1_cases : ∀ f : Fin 2, ∀ b : Fin 2, Go.bits .or .u8 ((f.val : Int) * 4 % 256) (b.val : Int) = f.val * 4 + b.val := by decide +kernel
theorem r2_cases : ∀ f : Fin 2, ∀ b : Fin 2, ∀ i : Fin 2, Go.bits .or .u8 ((f.val : Int) * 4 + b.val) (IntKind.u8.wrap ((i.val : Int) * 2)) = f.val * 4 + b.val + i.val * 2 := by decide +kernel
theorem b_reg (f b : Int) (f0 : 0 ≤ f) (f1 : f < 8) (b0 : 0 ≤ b) (b1 : b < 8) : Go.bits .or .u8 (Go.bits .or .u8 192 (f * 8 % 256)) b = 192 + f * 8 + b :=
  fin_of (n := 8) (P := fun b => Go.bits .or .u8 (Go.bits .or .u8 192 (f * 8 % 256)) b = 192 + f * 8 + b) (fun b => fin_of (n := 8) (P := fun f => Go.bits .or .u8 (Go.bits .or .u8 192 (f * 8 % 256)) b = 192 + f * 8 + b) (fun f => b_reg_cases f b) f f0 f1) b b0 b1
theorem b_mem (m f b : Int) (m0 : 0 ≤ m) (m1 : m < 3) (f0 : 0 ≤ f) (f1 : f < 8) (b0 : 0 ≤ b) (b1 : b < 8) : Go.bits .or .u8 (Go.bits .or .u8 (m * 64 % 256) (f * 8 % 256)) b = m * 64 + f * 8 + b :=
  fin_of (n := 8) (P := fun b => Go.bits .or .u8 (Go.bits .or .u8 (m * 64 % 256) (f * 8 % 256)) b = m * 64 + f * 8 + b) (fun b => fin_of (n := 8) (P := fun f => Go.bits .or .u8 (Go.bits .or .u8 (m * 64 % 256) (f * 8 % 256)) b = m * 64 + f * 8 + b) (fun f => fin_of (n := 3) (P := fun m => Go.bits .or .u8 (Go.bits .or .u8 (m * 64 % 256) ((f.val : Int) * 8 % 256)) b = m * 64 + f.val * 8 + b) (fun m => b_mem_cases m f b) m m0 m1) f f0 f1) b b0 b1
theorem b_sib (s i b : Int) (s0 : 0 ≤ s) (s1 : s < 4) (i0 : 0 ≤ i) (i1 : i < 8) (b0 : 0 ≤ b) (b1 : b < 8) : Go.bits .or .u8 (Go.bits .or .u8 (s % 256 * 64 % 256) (i * 8 % 256)) b = s * 64 + i * 8 + b :=
  fin_of (n := 8) (P := fun b => Go.bits .or .u8 (Go.bits .or .u8 (s % 256 * 64 % 256) (i * 8 % 256)) b = s * 64 + i * 8 + b) (fun b => fin_of (n := 8) (P := fun i => Go.bits .or .u8 (Go.bits .or .u8 (s % 256 * 64 % 256) (i * 8 % 256)) b = s * 64 + i * 8 + b) (fun i => fin_of (n := 4) (P := fun s => Go.bits .or .u8 (Go.bits .or .u8 (s % 256 * 64 % 256) ((i.val : Int) * 8 % 256)) b = s * 64 + i.val * 8 + b) (fun s => b_sib_cases s i b) s s0 s1) i i0 i1) b b0 b1
theorem b_rip (f : Int) (f0 : 0 ≤ f) (f1 : f < 8) : Go.bits .or .u8 (f * 8 % 256) 5 = f * 8 + 5 := fin_of (n := 8) (P := fun f => Go.bits .or .u8 (f * 8 % 256) 5 = f * 8 + 5) b_rip_cases f f0 f1
theorem r_1 (f b : Int) (f0 : 0 ≤ f) (f1 : f < 2) (b0 : 0 ≤ b) (b1 : b < 2) : Go.bits .or .u8 (f * 4 % 256) b = f * 4 + b :=
  fin_of (n := 2) (P := fun b => Go.bits .or .u8 (f * 4 % 256) b = f * 4 + b) (fun b => fin_of (n := 2) (P := fun f => Go.bits .or .u8 (f * 4 % 256) b = f * 4 + b) (fun f => r1_cases f b) f f0 f1) b b0 b1
theorem r_2 (f b i : Int) (f0 : 0 ≤ f) (f1 : f < 2) (b0 : 0 ≤ b) (b1 : b < 2) (i0 : 0 ≤ i) (i1 : i < 2) : Go.bits .or .u8 (f * 4 + b) (IntKind.u8.wrap (i * 2)) = f * 4 + b + i * 2 :=
  fin_of (n := 2) (P := fun i => Go.bits .or .u8 (f * 4 + b) (IntKind.u8.wrap (i * 2)) = f * 4 + b + i * 2) (fun i => fin_of (n := 2) (P := fun b => Go.bits .or .u8 (f * 4 + b) (IntKind.u8.wrap ((i.val : Int) * 2)) = f * 4 + b + i.val * 2) (fun b => fin_of (n := 2) (P := fun f => Go.bits .or .u8 (f * 4 + b) (IntKind.u8.wrap ((i.val : Int) * 2)) = f * 4 + b + i.val * 2) (fun f => r2_cases f b i) f f0 f1) b b0 b1) i i0 i1
theorem putMR_sum (reg base idx : Int) (h : 0 ≤ reg ∧ reg ≤ 15) (hb : -1 ≤ base ∧ base < 16) (hi : -1 ≤ idx ∧ idx < 16) :
    putMR reg base idx = reg / 8 * 4 + (if 0 ≤ base then base / 8 else 0) + (if 0 ≤ idx then idx / 8 * 2 else 0) := by
  unfold putMR
  rw [(low_high reg (by omega) (by omega)).2]
  by_cases c : 0 ≤ base
  · rw [if_pos c, if_pos c, (low_high base c (by omega)).2, r_1 _ _ (by omega) (by omega) (by omega) (by omega)]
    by_cases d : 0 ≤ idx
    · simp only [if_pos d]
      rw [(low_high idx d (by omega)).2, r_2 _ _ _ (by omega) (by omega) (by omega) (by omega) (by omega) (by omega)]
    · simp only [if_neg d]; omega
  · rw [if_neg c, if_neg c, show reg / 8 * 4 % 256 = reg / 8 * 4 + 0 by omega]
    by_cases d : 0 ≤ idx
    · simp only [if_pos d]
      rw [(low_high idx d (by omega)).2, r_2 _ _ _ (by omega) (by omega) (by omega) (by omega) (by omega) (by omega)]
    · simp only [if_neg d]; omega
theorem tzN_lt (s : Int) : 0 ≤ tzN s ∧ tzN s < 4 := by unfold tzN; repeat' split <;> omega
theorem formF_md (base dp : Int) : 0 ≤ (formF base dp).1 ∧ (formF base dp).1 < 3 ∧ (0 ≤ base → wid (formF base dp).1 = (formF base dp).2) := by
  unfold formF
  by_cases h : base < 0
  · rw [if_pos h]; exact ⟨by decide, by decide, fun _ => by omega⟩
  · rw [if_neg h]
    split
    · exact ⟨by decide, by decide, fun _ => rfl⟩
    · split
      · exact ⟨by decide, by decide, fun _ => rfl⟩
      · exact ⟨by decide, by decide, fun _ => rfl⟩
def scaN (idx sc : Int) : Int := if 0 ≤ idx then tzN sc else 0
def lowB (base : Int) : Int := if 0 ≤ base then base % 8 else 5
def lowI (idx : Int) : Int := if 0 ≤ idx then idx % 8 else 4
theorem putMB_sum (reg base idx sc dp : Int) (h : 0 ≤ reg ∧ reg ≤ 15) (hb : -1 ≤ base ∧ base < 16) (hi : -1 ≤ idx ∧ idx < 16) (md : Int) (hm : 0 ≤ md ∧ md < 3) (wd : Nat) :
    putMB reg base idx sc dp md wd = if 0 ≤ idx ∨ base < 0 ∨ lowB base = 4 then [md * 64 + reg % 8 * 8 + 4, scaN idx sc * 64 + lowI idx * 8 + lowB base] ++ dispB dp wd else [md * 64 + reg % 8 * 8 + lowB base] ++ dispB dp wd := by
  have e1 : (if 0 ≤ base then lowF base else 5) = lowB base := by
    unfold lowB
    by_cases c : 0 ≤ base
    · rw [if_pos c, if_pos c, (low_high base c (by omega)).1]
    · rw [if_neg c, if_neg c]
  have e2 : (if 0 ≤ idx then lowF idx else 4) = lowI idx := by
    unfold lowI
    by_cases c : 0 ≤ idx
    · rw [if_pos c, if_pos c, (low_high idx c (by omega)).1]
    · rw [if_neg c, if_neg c]
  have hlb : 0 ≤ lowB base ∧ lowB base < 8 := by unfold lowB; split <;> omega
  have hli : 0 ≤ lowI idx ∧ lowI idx < 8 := by unfold lowI; split <;> omega
  have hsc : 0 ≤ scaN idx sc ∧ scaN idx sc < 4 := by
    unfold scaN
    have := tzN_lt sc
    split <;> omega
  have e3 : (if 0 ≤ idx then tzN sc else 0) = scaN idx sc := rfl
  unfold putMB
  simp only [e1, e2, e3]
  rw [(low_high reg (by omega) (by omega)).1, b_mem _ _ _ hm.1 hm.2 (by omega) (by omega) (by decide) (by decide), b_mem _ _ _ hm.1 hm.2 (by omega) (by omega) hlb.1 hlb.2, b_sib _ _ _ hsc.1 hsc.2 hli.1 hli.2 hlb.1 hlb.2]
end Go.Proofs.YtppeidopijnnlaaDoor.B
namespace Go.Proofs.YtppeidopijnnlaaDoor.B
open Go.RowKit Go.Proofs.YtppeidopijnnlaaDoorW.PrintWords Go.Proofs.YtppeidopijnnlaaDoorW.PrintMore Go.RF
set_option linter.unusedVariables false
set_option linter.unusedSimpArgs false
theorem tupEq {a a' k R R' base idx sc dp im n n' e : Int} {rip : Bool} (h1 : a = a') (h2 : R = R') (h3 : n = n') : (a, k, R, base, idx, sc, dp, rip, im, n, e) = ((a', k, R', base, idx, sc, dp, rip, im, n', e) : TakeT) := by
  subst h1 h2 h3
  rfl
theorem tk_reg (b0 rex : Int) (t : List Int) (h : b0 / 64 = 3) : takeF (b0 :: t) rex = takeRest (b0 :: t) rex 1 0 1 (b0 % 8 + mo rex) (-1) (-1) 0 false := by
  unfold takeF
  rw [if_neg (by simp)]
  show (if b0 / 64 = 3 then takeRest (b0 :: t) rex 1 (wid (b0 / 64)) 1 (b0 % 8 + mo rex) (-1) (-1) 0 false else _) = _
  rw [if_pos h, h]
  rfl
theorem tk_rip (b0 rex : Int) (t : List Int) (h : b0 / 64 = 0) (h5 : b0 % 8 = 5) : takeF (b0 :: t) rex = takeRest (b0 :: t) rex 1 4 2 0 (-1) (-1) 1 true := by
  unfold takeF
  rw [if_neg (by simp)]
  show (if b0 / 64 = 3 then _ else if b0 % 8 = 4 then _ else if b0 % 8 = 5 ∧ b0 / 64 = 0 then takeRest (b0 :: t) rex 1 4 2 0 (-1) (-1) 1 true else _) = _
  rw [if_neg (by omega), if_neg (by omega), if_pos ⟨h5, h⟩]
theorem tk_short (b0 rex : Int) (t : List Int) (h : b0 / 64 ≠ 3) (h4 : b0 % 8 ≠ 4) (h5 : ¬ (b0 % 8 = 5 ∧ b0 / 64 = 0)) : takeF (b0 :: t) rex = takeRest (b0 :: t) rex 1 (wid (b0 / 64)) 2 0 (b0 % 8 + mo rex) (-1) 1 false := by
  unfold takeF
  rw [if_neg (by simp)]
  show (if b0 / 64 = 3 then _ else if b0 % 8 = 4 then _ else if b0 % 8 = 5 ∧ b0 / 64 = 0 then _ else takeRest (b0 :: t) rex 1 (wid (b0 / 64)) 2 0 (b0 % 8 + mo rex) (-1) 1 false) = _
  rw [if_neg h, if_neg h4, if_neg h5]
theorem tk_sib1 (b0 rex : Int) (h : b0 / 64 ≠ 3) (h4 : b0 % 8 = 4) : takeF [b0] rex = failT := by
  unfold takeF
  rw [if_neg (by simp)]
  show (if b0 / 64 = 3 then _ else if b0 % 8 = 4 then (if [b0].length < 2 then failT else _) else _) = _
  rw [if_neg h, if_pos h4, if_pos (by simp)]
theorem tk_sibA (b0 b1 rex : Int) (t : List Int) (h : b0 / 64 ≠ 3) (h4 : b0 % 8 = 4) (h5 : b1 % 8 = 5 ∧ b0 / 64 = 0) :
    takeF (b0 :: b1 :: t) rex = takeRest (b0 :: b1 :: t) rex 2 4 2 0 (-1) (if b1 / 8 % 8 + mo (rex / 2) = 4 then -1 else b1 / 8 % 8 + mo (rex / 2)) (if b1 / 8 % 8 + mo (rex / 2) = 4 then 1 else 2 ^ (b1 / 64).toNat) false := by
  unfold takeF
  rw [if_neg (by simp)]
  show (if b0 / 64 = 3 then _ else if b0 % 8 = 4 then (if (b0 :: b1 :: t).length < 2 then failT else if b1 % 8 = 5 ∧ b0 / 64 = 0 then takeRest (b0 :: b1 :: t) rex 2 4 2 0 (-1) (if b1 / 8 % 8 + mo (rex / 2) = 4 then -1 else b1 / 8 % 8 + mo (rex / 2)) (if b1 / 8 % 8 + mo (rex / 2) = 4 then 1 else 2 ^ (b1 / 64).toNat) false else _) else _) = _
  rw [if_neg h, if_pos h4, if_neg (by simp), if_pos h5]
theorem tk_sibB (b0 b1 rex : Int) (t : List Int) (h : b0 / 64 ≠ 3) (h4 : b0 % 8 = 4) (h5 : ¬ (b1 % 8 = 5 ∧ b0 / 64 = 0)) :
    takeF (b0 :: b1 :: t) rex = takeRest (b0 :: b1 :: t) rex 2 (wid (b0 / 64)) 2 0 (b1 % 8 + mo rex) (if b1 / 8 % 8 + mo (rex / 2) = 4 then -1 else b1 / 8 % 8 + mo (rex / 2)) (if b1 / 8 % 8 + mo (rex / 2) = 4 then 1 else 2 ^ (b1 / 64).toNat) false := by
  unfold takeF
  rw [if_neg (by simp)]
  show (if b0 / 64 = 3 then _ else if b0 % 8 = 4 then (if (b0 :: b1 :: t).length < 2 then failT else if b1 % 8 = 5 ∧ b0 / 64 = 0 then _ else takeRest (b0 :: b1 :: t) rex 2 (wid (b0 / 64)) 2 0 (b1 % 8 + mo rex) (if b1 / 8 % 8 + mo (rex / 2) = 4 then -1 else b1 / 8 % 8 + mo (rex / 2)) (if b1 / 8 % 8 + mo (rex / 2) = 4 then 1 else 2 ^ (b1 / 64).toNat) false) else _) = _
  rw [if_neg h, if_pos h4, if_neg (by simp), if_neg h5]
theorem rest_at (hd : List Int) (dp : Int) (wd : Nat) (t : List Int) (rex k R base idx sc : Int) (rip : Bool) (used w : Int) (hu : (hd.length : Int) = used) (hw : (wd : Int) = w) :
    takeRest (hd ++ dispB dp wd ++ t) rex used w k R base idx sc rip = ((hd ++ dispB dp wd ++ t).getD 0 0 / 8 % 8 + mo (rex / 4), k, R, base, idx, sc, dispOf w (dispB dp wd), rip, 0, used + w, 0) := by
  subst hu hw
  have hl : (dispB dp wd).length = wd := by simp [dispB]
  unfold takeRest
  rw [if_neg (by simp only [List.length_append, hl]; omega)]
  have e : List.take (wd : Int).toNat (List.drop (hd.length : Int).toNat (hd ++ dispB dp wd ++ t)) = dispB dp wd := by
    rw [Int.toNat_natCast, Int.toNat_natCast, List.append_assoc, List.drop_left, List.take_left' hl]
  rw [e]
theorem rest_no (l : List Int) (rex used w k R base idx sc : Int) (rip : Bool) (h : (l.length : Int) < used + w) : takeRest l rex used w k R base idx sc rip = failT := if_pos h
theorem rex_parts (reg b i : Int) (hr : 0 ≤ reg ∧ reg ≤ 15) (hb : 0 ≤ b ∧ b < 2) (hi : 0 ≤ i ∧ i < 2) :
    mo (reg / 8 * 4 + b + i * 2) = b * 8 ∧ mo ((reg / 8 * 4 + b + i * 2) / 2) = i * 8 ∧ mo ((reg / 8 * 4 + b + i * 2) / 4) = reg / 8 * 8 := by
  refine ⟨?_, ?_, ?_⟩
  · rw [mo_eq _ (by omega) (by omega)]; omega
  · rw [mo_eq _ (by omega) (by omega)]; omega
  · rw [mo_eq _ (by omega) (by omega)]; omega
theorem tz_pow (s : Int) (h : s = 1 ∨ s = 2 ∨ s = 4 ∨ s = 8) : (2 : Int) ^ (tzN s).toNat = s := by rcases h with rfl | rfl | rfl | rfl <;> decide
def headN (k base idx : Int) (rip : Bool) : Nat := if k = 1 then 1 else if rip = true then 1 else if 0 ≤ idx ∨ base < 0 ∨ base % 8 = 4 then 2 else 1
def widN (k base dp : Int) (rip : Bool) : Nat := if k = 1 then 0 else if rip = true then 4 else (formF base dp).2.toNat
def Back (reg k R base idx sc dp : Int) (rip : Bool) (im : Int) (b : List Int) (rex : Int) : Prop :=
  b.length = headN k base idx rip + widN k base dp rip ∧ (∀ t, takeF (b ++ t) rex = (reg, k, R, base, idx, sc, dp, rip, im, (b.length : Int), 0)) ∧ (∀ n, n < b.length → takeF (b.take n) rex = failT) ∧ 0 ≤ rex ∧ rex < 8 ∧ ∀ x ∈ b, 0 ≤ x ∧ x < 256
theorem dispB_len (dp : Int) (n : Nat) : (dispB dp n).length = n := by simp [dispB]
theorem dispB_in (dp : Int) (n : Nat) : ∀ x ∈ dispB dp n, 0 ≤ x ∧ x < 256 := by
  intro x hx
  unfold dispB at hx
  obtain ⟨j, -, rfl⟩ := List.mem_map.1 hx
  rw [byteAt_eq]
  omega
theorem back_reg (reg R : Int) (hr : 0 ≤ reg ∧ reg ≤ 15) (hR : 0 ≤ R ∧ R < 16) (base dp idx : Int) (rip : Bool) :
    Back reg 1 R (-1) (-1) 0 0 false 0 [192 + reg % 8 * 8 + R % 8] (reg / 8 * 4 + R / 8) := by
  have hp := rex_parts reg (R / 8) 0 hr (by omega) (by omega)
  rw [show reg / 8 * 4 + R / 8 + 0 * 2 = reg / 8 * 4 + R / 8 by omega] at hp
  refine ⟨rfl, fun t => ?_, fun n hn => ?_, by omega, by omega, ?_⟩
  · have e := rest_at [192 + reg % 8 * 8 + R % 8] 0 0 t (reg / 8 * 4 + R / 8) 1 (R % 8 + R / 8 * 8) (-1) (-1) 0 false 1 0 rfl rfl
    have e2 : [192 + reg % 8 * 8 + R % 8] ++ dispB 0 0 ++ t = (192 + reg % 8 * 8 + R % 8) :: t := rfl
    rw [e2] at e
    show takeF ((192 + reg % 8 * 8 + R % 8) :: t) _ = _
    rw [tk_reg _ _ _ (by omega), hp.1, show (192 + reg % 8 * 8 + R % 8) % 8 + R / 8 * 8 = R % 8 + R / 8 * 8 by omega, e, hp.2.2]
    refine tupEq ?_ (by omega) rfl
    show (192 + reg % 8 * 8 + R % 8) / 8 % 8 + reg / 8 * 8 = reg
    omega
  · obtain rfl : n = 0 := by simp at hn; exact hn
    rfl
  · intro x hx
    simp at hx
    omega
theorem back_rip (reg dp : Int) (hr : 0 ≤ reg ∧ reg ≤ 15) (hd : -2147483648 ≤ dp ∧ dp < 2147483648) :
    Back reg 2 0 (-1) (-1) 1 dp true 0 ([reg % 8 * 8 + 5] ++ dispB dp 4) (reg / 8 * 4) := by
  have hp := rex_parts reg 0 0 hr (by omega) (by omega)
  rw [show reg / 8 * 4 + 0 + 0 * 2 = reg / 8 * 4 by omega] at hp
  refine ⟨by rw [List.length_append, dispB_len]; rfl, fun t => ?_, fun n hn => ?_, by omega, by omega, ?_⟩
  · have e := rest_at [reg % 8 * 8 + 5] dp 4 t (reg / 8 * 4) 2 0 (-1) (-1) 1 true 1 4 rfl rfl
    rw [List.length_append, dispB_len]
    show takeF ((reg % 8 * 8 + 5) :: (dispB dp 4 ++ t)) _ = _
    rw [tk_rip _ _ _ (by omega) (by omega)]
    show takeRest ([reg % 8 * 8 + 5] ++ dispB dp 4 ++ t) _ _ _ _ _ _ _ _ _ = _
    rw [e, hp.2.2, back4 dp hd.1 hd.2]
    refine tupEq ?_ rfl rfl
    show (reg % 8 * 8 + 5) / 8 % 8 + reg / 8 * 8 = reg
    omega
  · rw [List.length_append, dispB_len] at hn
    cases n with
    | zero => rfl
    | succ n =>
      show takeF ((reg % 8 * 8 + 5) :: (dispB dp 4).take n) _ = _
      rw [tk_rip _ _ _ (by omega) (by omega)]
      refine rest_no _ _ _ _ _ _ _ _ _ _ ?_
      simp only [List.length_cons, List.length_take, dispB_len, List.length_nil] at hn ⊢
      omega
  · intro x hx
    rcases List.mem_append.1 hx with h | h
    · simp at h; omega
    · exact dispB_in _ _ _ h
theorem disp_form (base dp : Int) (hd : -2147483648 ≤ dp ∧ dp < 2147483648) : dispOf (formF base dp).2 (dispB dp (formF base dp).2.toNat) = dp := by
  unfold formF
  by_cases h1 : base < 0
  · rw [if_pos h1]; exact back4 dp hd.1 hd.2
  · rw [if_neg h1]
    by_cases h2 : dp = 0 ∧ lowF base ≠ 5
    · rw [if_pos h2, h2.1]; rfl
    · rw [if_neg h2]
      by_cases h3 : wrap64 (IntKind.i8.wrap dp) = dp
      · rw [if_pos h3]
        have := (fits8 dp).1 h3
        exact back1 dp this.1 this.2
      · rw [if_neg h3]; exact back4 dp hd.1 hd.2
theorem form_no5 (base dp : Int) (h0 : 0 ≤ base) (h1 : base < 16) (h5 : base % 8 = 5) : (formF base dp).1 ≠ 0 := by
  unfold formF
  rw [if_neg (by omega), if_neg (by rw [(low_high base h0 h1).1]; omega)]
  split <;> exact (by decide)
theorem sib_ix (idx ib li : Int) (hi : -1 ≤ idx ∧ idx < 16) (h4 : idx ≠ 4) (hx : 0 ≤ idx → li = idx % 8 ∧ ib = idx / 8) (hn : ¬ 0 ≤ idx → li = 4 ∧ ib = 0) : (if li + ib * 8 = 4 then (-1 : Int) else li + ib * 8) = idx := by
  by_cases c : 0 ≤ idx
  · obtain ⟨rfl, rfl⟩ := hx c
    rw [if_neg (by omega)]
    omega
  · obtain ⟨rfl, rfl⟩ := hn c
    rw [if_pos (by omega)]
    omega
theorem sib_sc (idx ib li sc : Int) (hi : -1 ≤ idx ∧ idx < 16) (h4 : idx ≠ 4) (hx : 0 ≤ idx → li = idx % 8 ∧ ib = idx / 8) (hn : ¬ 0 ≤ idx → li = 4 ∧ ib = 0) (hs : idx < 0 ∧ sc = 1 ∨ 0 ≤ idx ∧ (sc = 1 ∨ sc = 2 ∨ sc = 4 ∨ sc = 8)) :
    (if li + ib * 8 = 4 then (1 : Int) else 2 ^ (scaN idx sc).toNat) = sc := by
  unfold scaN
  by_cases c : 0 ≤ idx
  · obtain ⟨rfl, rfl⟩ := hx c
    rw [if_neg (by omega), if_pos c]
    rcases hs with ⟨h, -⟩ | ⟨-, h⟩
    · omega
    · exact tz_pow sc h
  · obtain ⟨rfl, rfl⟩ := hn c
    rw [if_pos (by omega)]
    rcases hs with ⟨-, h⟩ | ⟨h, -⟩
    · exact h.symm
    · omega
theorem b0_parts (md reg e : Int) (hm : 0 ≤ md ∧ md < 3) (he : 0 ≤ e ∧ e < 8) (hr : 0 ≤ reg ∧ reg ≤ 15) (b0 : Int) (h : md * 64 + reg % 8 * 8 + e = b0) :
    b0 / 64 = md ∧ b0 % 8 = e ∧ b0 / 8 % 8 + reg / 8 * 8 = reg ∧ 0 ≤ b0 ∧ b0 < 256 := by omega
theorem b1_parts (s i e : Int) (hs : 0 ≤ s ∧ s < 4) (hi : 0 ≤ i ∧ i < 8) (he : 0 ≤ e ∧ e < 8) (b1 : Int) (h : s * 64 + i * 8 + e = b1) :
    b1 / 64 = s ∧ b1 % 8 = e ∧ b1 / 8 % 8 = i ∧ 0 ≤ b1 ∧ b1 < 256 := by omega
theorem back_long (reg base idx sc dp md lb li sca bb ib rex b0 b1 : Int) (W : Nat) (hr : 0 ≤ reg ∧ reg ≤ 15) (hmd : md ≠ 3) (hwid : 0 ≤ base → wid md = W) (hneg : ¬ 0 ≤ base → md = 0 ∧ (W : Int) = 4 ∧ base = -1 ∧ lb = 5) (h5 : 0 ≤ base → lb = 5 → md ≠ 0)
    (hbv : 0 ≤ base → lb + bb * 8 = base) (hX : (if li + ib * 8 = 4 then (-1 : Int) else li + ib * 8) = idx) (hS : (if li + ib * 8 = 4 then (1 : Int) else 2 ^ sca.toNat) = sc)
    (hp : mo rex = bb * 8 ∧ mo (rex / 2) = ib * 8 ∧ mo (rex / 4) = reg / 8 * 8) (q0 : b0 / 64 = md ∧ b0 % 8 = 4 ∧ b0 / 8 % 8 + reg / 8 * 8 = reg ∧ 0 ≤ b0 ∧ b0 < 256) (q1 : b1 / 64 = sca ∧ b1 % 8 = lb ∧ b1 / 8 % 8 = li ∧ 0 ≤ b1 ∧ b1 < 256)
    (hD : dispOf W (dispB dp W) = dp) (hH : headN 2 base idx false = 2) (hW : widN 2 base dp false = W) (hrex : 0 ≤ rex ∧ rex < 8) : Back reg 2 0 base idx sc dp false 0 ([b0, b1] ++ dispB dp W) rex := by
  have main : ∀ l : List Int, takeF (b0 :: b1 :: l) rex = takeRest (b0 :: b1 :: l) rex 2 W 2 0 base idx sc false := by
    intro l
    by_cases c : 0 ≤ base
    · rw [tk_sibB b0 b1 _ _ (by rw [q0.1]; exact hmd) q0.2.1 (fun h => h5 c (q1.2.1.symm.trans h.1) (q0.1.symm.trans h.2)), hp.2.1, q1.2.2.1, hX, q1.1, hS, hp.1, q0.1, hwid c, q1.2.1, hbv c]
    · obtain ⟨h1, h2, h3, h4⟩ := hneg c
      rw [tk_sibA b0 b1 _ _ (by rw [q0.1]; exact hmd) q0.2.1 ⟨q1.2.1.trans h4, q0.1.trans h1⟩, hp.2.1, q1.2.2.1, hX, q1.1, hS, h2, h3]
  refine ⟨by rw [List.length_append, dispB_len, hH, hW]; rfl, fun t => ?_, fun n hn => ?_, hrex.1, hrex.2, ?_⟩
  · have e := rest_at [b0, b1] dp W t rex 2 0 base idx sc false 2 W rfl rfl
    rw [List.length_append, dispB_len]
    show takeF (b0 :: b1 :: (dispB dp W ++ t)) _ = _
    rw [main]
    show takeRest ([b0, b1] ++ dispB dp W ++ t) _ _ _ _ _ _ _ _ _ = _
    rw [e, hp.2.2, hD]
    refine tupEq ?_ rfl (by simp)
    exact q0.2.2.1
  · rw [List.length_append, dispB_len] at hn
    match n, hn with
    | 0, _ => rfl
    | 1, _ => exact tk_sib1 b0 _ (by rw [q0.1]; exact hmd) q0.2.1
    | n + 2, hn =>
      show takeF (b0 :: b1 :: (dispB dp W).take n) _ = _
      rw [main]
      refine rest_no _ _ _ _ _ _ _ _ _ _ ?_
      simp only [List.length_cons, List.length_take, dispB_len, List.length_nil] at hn ⊢
      clear q0 q1 hp hX hS h5 hbv hneg hwid
      omega
  · intro x hx
    rcases List.mem_append.1 hx with h | h
    · have := q0.2.2.2
      have := q1.2.2.2
      simp at h
      rcases h with rfl | rfl <;> assumption
    · exact dispB_in _ _ _ h
theorem back_short (reg base sc dp md lb bb rex b0 : Int) (W : Nat) (hmd : md ≠ 3) (hwid : wid md = W) (h5 : lb = 5 → md ≠ 0) (hbv : lb + bb * 8 = base) (h4 : lb ≠ 4) (hsc : sc = 1)
    (hp : mo rex = bb * 8 ∧ mo (rex / 2) = 0 * 8 ∧ mo (rex / 4) = reg / 8 * 8) (q0 : b0 / 64 = md ∧ b0 % 8 = lb ∧ b0 / 8 % 8 + reg / 8 * 8 = reg ∧ 0 ≤ b0 ∧ b0 < 256)
    (hD : dispOf W (dispB dp W) = dp) (hH : headN 2 base (-1) false = 1) (hW : widN 2 base dp false = W) (hrex : 0 ≤ rex ∧ rex < 8) : Back reg 2 0 base (-1) sc dp false 0 ([b0] ++ dispB dp W) rex := by
  have main : ∀ l : List Int, takeF (b0 :: l) rex = takeRest (b0 :: l) rex 1 W 2 0 base (-1) sc false := by
    intro l
    rw [tk_short b0 _ _ (by rw [q0.1]; exact hmd) (by rw [q0.2.1]; exact h4) (fun h => h5 (q0.2.1.symm.trans h.1) (q0.1.symm.trans h.2)), hp.1, q0.1, hwid, q0.2.1, hbv, hsc]
  refine ⟨by rw [List.length_append, dispB_len, hH, hW]; rfl, fun t => ?_, fun n hn => ?_, hrex.1, hrex.2, ?_⟩
  · have e := rest_at [b0] dp W t rex 2 0 base (-1) sc false 1 W rfl rfl
    rw [List.length_append, dispB_len]
    show takeF (b0 :: (dispB dp W ++ t)) _ = _
    rw [main]
    show takeRest ([b0] ++ dispB dp W ++ t) _ _ _ _ _ _ _ _ _ = _
    rw [e, hp.2.2, hD]
    refine tupEq ?_ rfl (by simp)
    exact q0.2.2.1
  · rw [List.length_append, dispB_len] at hn
    cases n with
    | zero => rfl
    | succ n =>
      show takeF (b0 :: (dispB dp W).take n) _ = _
      rw [main]
      refine rest_no _ _ _ _ _ _ _ _ _ _ ?_
      simp only [List.length_cons, List.length_take, dispB_len, List.length_nil] at hn ⊢
      clear q0 hp h5 hbv hwid
      omega
  · intro x hx
    rcases List.mem_append.1 hx with h | h
    · have := q0.2.2.2
      simp at h
      rcases h with rfl
      assumption
    · exact dispB_in _ _ _ h
theorem bits_in (x : Int) (h : -1 ≤ x ∧ x < 16) : 0 ≤ (if 0 ≤ x then x / 8 else 0) ∧ (if 0 ≤ x then x / 8 else 0) < 2 := by split <;> omega
theorem lowB_in (x : Int) : 0 ≤ lowB x ∧ lowB x < 8 := by unfold lowB; split <;> omega
theorem lowI_in (x : Int) : 0 ≤ lowI x ∧ lowI x < 8 := by unfold lowI; split <;> omega
theorem scaN_in (x s : Int) : 0 ≤ scaN x s ∧ scaN x s < 4 := by
  unfold scaN
  have := tzN_lt s
  split <;> omega
theorem rex_in (reg b i : Int) (hr : 0 ≤ reg ∧ reg ≤ 15) (hb : 0 ≤ b ∧ b < 2) (hi : 0 ≤ i ∧ i < 2) : 0 ≤ reg / 8 * 4 + b + i * 2 ∧ reg / 8 * 4 + b + i * 2 < 8 := by omega
theorem lowB_pos (x : Int) (h : 0 ≤ x) : lowB x = x % 8 := if_pos h
theorem lowB_neg (x : Int) (h : ¬ 0 ≤ x) : lowB x = 5 := if_neg h
theorem base_sum (x : Int) (h : 0 ≤ x) : lowB x + (if 0 ≤ x then x / 8 else 0) * 8 = x := by rw [lowB_pos x h, if_pos h]; omega
theorem twice (x : Int) : (if 0 ≤ x then x / 8 * 2 else 0) = (if 0 ≤ x then x / 8 else 0) * 2 := by split <;> omega
theorem long_iff (base idx : Int) : (0 ≤ idx ∨ base < 0 ∨ lowB base = 4) ↔ (0 ≤ idx ∨ base < 0 ∨ base % 8 = 4) := by
  by_cases c : 0 ≤ base
  · rw [lowB_pos base c]
  · constructor <;> intro <;> exact .inr (.inl (by omega))
theorem back_mem (reg base idx sc dp : Int) (hr : 0 ≤ reg ∧ reg ≤ 15) (hd : -2147483648 ≤ dp ∧ dp < 2147483648) (hb : -1 ≤ base ∧ base < 16) (hi : -1 ≤ idx ∧ idx < 16) (hi4 : idx ≠ 4)
    (hs : idx < 0 ∧ sc = 1 ∨ 0 ≤ idx ∧ (sc = 1 ∨ sc = 2 ∨ sc = 4 ∨ sc = 8)) :
    Back reg 2 0 base idx sc dp false 0 (putMB reg base idx sc dp (formF base dp).1 (formF base dp).2.toNat) (putMR reg base idx) := by
  have hf := formF_md base dp
  have hw := (formF_wd base dp).1
  have hD : dispOf ((formF base dp).2.toNat : Int) (dispB dp (formF base dp).2.toNat) = dp := by rw [hw]; exact disp_form base dp hd
  have hwid : 0 ≤ base → wid (formF base dp).1 = ((formF base dp).2.toNat : Int) := fun h => (hf.2.2 h).trans hw.symm
  have h5 : 0 ≤ base → lowB base = 5 → (formF base dp).1 ≠ 0 := fun h e => form_no5 base dp h hb.2 (by rw [← lowB_pos base h]; exact e)
  have hneg : ¬ 0 ≤ base → (formF base dp).1 = 0 ∧ ((formF base dp).2.toNat : Int) = 4 ∧ base = -1 ∧ lowB base = 5 := fun h => by
    unfold formF
    rw [if_pos (by omega)]
    exact ⟨rfl, rfl, by omega, lowB_neg base h⟩
  have hm3 : (formF base dp).1 ≠ 3 := by have := hf.2.1; omega
  have hrex := rex_in reg _ _ hr (bits_in base hb) (bits_in idx hi)
  have hp := rex_parts reg _ _ hr (bits_in base hb) (bits_in idx hi)
  have hWN : widN 2 base dp false = (formF base dp).2.toNat := rfl
  have hHN : headN 2 base idx false = if 0 ≤ idx ∨ base < 0 ∨ base % 8 = 4 then 2 else 1 := rfl
  rw [putMR_sum reg base idx hr hb hi, putMB_sum reg base idx sc dp hr hb hi _ ⟨hf.1, hf.2.1⟩, twice]
  by_cases cl : 0 ≤ idx ∨ base < 0 ∨ lowB base = 4
  · rw [if_pos cl]
    rw [if_pos ((long_iff base idx).1 cl)] at hHN
    have q0 := b0_parts (formF base dp).1 reg 4 ⟨hf.1, hf.2.1⟩ (by decide) hr _ rfl
    have q1 := b1_parts (scaN idx sc) (lowI idx) (lowB base) (scaN_in idx sc) (lowI_in idx) (lowB_in base) _ rfl
    have hlx : 0 ≤ idx → lowI idx = idx % 8 ∧ (if 0 ≤ idx then idx / 8 else 0) = idx / 8 := fun h => ⟨if_pos h, if_pos h⟩
    have hln : ¬ 0 ≤ idx → lowI idx = 4 ∧ (if 0 ≤ idx then idx / 8 else 0) = 0 := fun h => ⟨if_neg h, if_neg h⟩
    exact back_long reg base idx sc dp _ _ _ _ _ _ _ _ _ _ hr hm3 hwid hneg h5 (base_sum base) (sib_ix idx _ _ hi hi4 hlx hln) (sib_sc idx _ _ sc hi hi4 hlx hln hs) hp q0 q1 hD hHN hWN hrex
  · rw [if_neg cl]
    rw [if_neg (fun h => cl ((long_iff base idx).2 h))] at hHN
    have hb0 : 0 ≤ base := by omega
    have hx : idx = -1 := by omega
    have q0 := b0_parts (formF base dp).1 reg (lowB base) ⟨hf.1, hf.2.1⟩ (lowB_in base) hr _ rfl
    subst hx
    exact back_short reg base sc dp _ _ _ _ _ _ hm3 (hwid hb0) (h5 hb0) (base_sum base hb0) (fun h => cl (.inr (.inr h))) (by omega) hp q0 hD hHN hWN hrex
theorem put_back (reg k R base idx sc dp : Int) (rip : Bool) (im : Int) (h : 0 ≤ reg ∧ reg ≤ 15) (hR : RightP k R base idx sc dp rip im) :
    ∃ b rex, putF reg k R base idx sc dp rip im = (b, rex, 0) ∧ Back reg k R base idx sc dp rip im b rex := by
  have hr := (rightF_iff k R base idx sc dp rip im).2 hR
  unfold putF
  rw [if_pos ⟨h.1, h.2, hr⟩]
  rcases hR with ⟨rfl, h1, h2, rfl, rfl, rfl, rfl, rfl, rfl⟩ | ⟨rfl, rfl, rfl, hd, ⟨rfl, rfl, rfl, rfl⟩ | ⟨rfl, h1, h2, h3, h4, h5, h6⟩⟩
  · rw [if_pos rfl, (low_high reg (by omega) (by omega)).1, (low_high reg (by omega) (by omega)).2, (low_high R h1 h2).1, (low_high R h1 h2).2, b_reg _ _ (by omega) (by omega) (by omega) (by omega), r_1 _ _ (by omega) (by omega) (by omega) (by omega)]
    exact ⟨_, _, rfl, back_reg reg R h ⟨h1, h2⟩ 0 0 0 false⟩
  · rw [if_neg (by decide), if_pos rfl, (low_high reg (by omega) (by omega)).1, (low_high reg (by omega) (by omega)).2, b_rip _ (by omega) (by omega), show reg / 8 * 4 % 256 = reg / 8 * 4 by omega]
    exact ⟨_, _, rfl, back_rip reg dp h ((fits32 dp).1 hd)⟩
  · rw [if_neg (by decide), if_neg (by decide)]
    exact ⟨_, _, rfl, back_mem reg base idx sc dp h ((fits32 dp).1 hd) ⟨h1, h2⟩ ⟨h3, h4⟩ h5 h6⟩
end Go.Proofs.YtppeidopijnnlaaDoor.B
namespace Go.Proofs.YtppeidopijnnlaaDoor.C
open Go.RowKit Go.Proofs.YtppeidopijnnlaaDoorW.PrintWords Go.Proofs.YtppeidopijnnlaaDoorW.PrintLast Go.Proofs.YtppeidopijnnlaaDoorW.PrintMore Go.RF
set_option linter.unusedVariables false
set_option linter.unusedSimpArgs false
theorem ref_iff (n : Nat) (k R base idx sc dp : Int) (rip : Bool) (im : Int) : ∃ b, r8_Right.f (n + 2) k R base idx sc dp rip im = some b ∧ (b = true ↔ B.RightP k R base idx sc dp rip im) := by
  have jt : r8_Right.j0 (n + 2) true k R base idx sc dp rip im = some false := by simp only [r8_Right.j0, if_true]
  have jf : r8_Right.j1 (n + 1) true k R base idx sc dp rip im = some false := by simp only [r8_Right.j1, if_true]
  unfold r8_Right.f B.RightP
  rw [B.fits32]
  by_cases h1 : k = 1
  · subst h1
    rw [if_pos rfl]
    simp only [r8_Reg.f, Option.bind_some]
    split
    · rename_i hb
      simp at hb
      by_cases a : R ≥ 0
      · rw [if_pos a]
        refine ⟨_, rfl, ?_⟩
        rw [decide_eq_true_iff]
        constructor
        · intro h
          exact .inl ⟨by trivial, a, h, hb⟩
        · rintro (⟨-, -, h, -⟩ | ⟨h, -⟩)
          · exact h
          · exact absurd h (by decide)
      · rw [if_neg a]
        refine ⟨_, rfl, ?_⟩
        simp
        omega
    · rename_i hb
      simp at hb
      refine ⟨_, rfl, ?_⟩
      constructor
      · intro h; cases h
      · rintro (⟨-, -, -, e1, e2, e3, e4, e5, e6⟩ | ⟨h, -⟩)
        · exact absurd e6 (hb e1 e2 e3 e4 e5)
        · exact absurd h (by decide)
  rw [if_neg h1]
  by_cases h2 : k = 2
  · subst h2
    rw [if_pos rfl, jt]
    by_cases hR : R = 0
    · rw [if_pos hR]
      by_cases hi : im = 0
      · rw [if_pos hi]
        by_cases hd : dp < -2147483648
        · rw [if_pos hd]
          refine ⟨_, rfl, ?_⟩
          simp
          omega
        rw [if_neg hd]
        by_cases hd2 : dp ≥ 2147483648
        · rw [decide_eq_true hd2, jt]
          refine ⟨_, rfl, ?_⟩
          simp
          omega
        rw [decide_eq_false hd2]
        rw [r8_Right.j0, if_neg (by decide)]
        cases rip
        · rw [if_neg (by decide)]
          rw [jf]
          by_cases a1 : base < -1
          · rw [if_pos a1]; exact ⟨_, rfl, by simp; omega⟩
          rw [if_neg a1]
          by_cases a2 : base > 15
          · rw [if_pos a2]; exact ⟨_, rfl, by simp; omega⟩
          rw [if_neg a2]
          by_cases a3 : idx < -1
          · rw [if_pos a3]; exact ⟨_, rfl, by simp; omega⟩
          rw [if_neg a3]
          by_cases a4 : idx > 15
          · rw [if_pos a4]; exact ⟨_, rfl, by simp; omega⟩
          rw [if_neg a4]
          by_cases a5 : idx = 4
          · rw [show (idx == 4) = true by simp [a5], jf]; exact ⟨_, rfl, by simp; omega⟩
          rw [show (idx == 4) = false by simp [a5], r8_Right.j1, if_neg (by decide)]
          by_cases a6 : idx < 0
          · rw [if_pos a6]; exact ⟨_, rfl, by simp; omega⟩
          rw [if_neg a6]
          by_cases s1 : sc = 1
          · rw [if_pos s1]; exact ⟨_, rfl, by simp; omega⟩
          rw [if_neg s1]
          by_cases s2 : sc = 2
          · rw [if_pos s2]; exact ⟨_, rfl, by simp; omega⟩
          rw [if_neg s2]
          by_cases s4 : sc = 4
          · rw [if_pos s4]; exact ⟨_, rfl, by simp; omega⟩
          rw [if_neg s4]
          exact ⟨_, rfl, by simp; omega⟩
        · rw [if_pos rfl]
          by_cases a1 : base = -1
          · rw [if_pos a1]
            by_cases a2 : idx = -1
            · rw [if_pos a2]; exact ⟨_, rfl, by simp; omega⟩
            · rw [if_neg a2]; exact ⟨_, rfl, by simp; omega⟩
          · rw [if_neg a1]; exact ⟨_, rfl, by simp; omega⟩
      · rw [if_neg hi]; exact ⟨_, rfl, by simp [hi]⟩
    · rw [if_neg hR]; exact ⟨_, rfl, by simp [hR]⟩
  · rw [if_neg h2, jt]
    exact ⟨_, rfl, by simp [h1, h2]⟩
theorem refRight (n : Nat) (k R base idx sc dp : Int) (rip : Bool) (im : Int) : r8_Right.f (n + 2) k R base idx sc dp rip im = some (B.rightF k R base idx sc dp rip im) := by
  obtain ⟨b, hb, h⟩ := ref_iff n k R base idx sc dp rip im
  rw [hb]
  have h2 := B.rightF_iff k R base idx sc dp rip im
  congr 1
  rw [Bool.eq_iff_iff, h, h2]
theorem wakes_f : l8_wakes.f = some true := by
  show G.Wakes = _
  unfold G.Wakes
  have a1 : B.operand_Take.f [193] 0 = some (0, 1, 1, -1, -1, 0, 0, false, 0, 1, 0) := by show B.G.Take _ _ = _; rw [B.G.Take_eq]; exact B.take_c1
  have a2 : B.operand_Take.f [68, 36, 8, 99] 0 = some (0, 2, 0, 4, -1, 1, 8, false, 0, 3, 0) := by show B.G.Take _ _ = _; rw [B.G.Take_eq]; exact B.take_c2
  have a3 : B.operand_Take.f [] 0 = some (0, 0, 0, 0, 0, 0, 0, false, 0, 0, 80) := by show B.G.Take _ _ = _; rw [B.G.Take_eq]; exact B.take_c3
  have m : B.operand_Mem.f 4 8 = some (2, 0, 4, -1, 1, 8, false, 0) := by kernel_rfl
  have r : B.operand_Reg.f 1 = some (1, 1, -1, -1, 0, 0, false, 0) := by kernel_rfl
  have p0 : B.G.Put 9 2 0 4 (-1) 1 8 false 0 = some ([76, 36, 8], 4, 0) := by rw [B.G.Put_eq]; kernel_rfl
  have p : B.operand_Put.f 9 2 0 4 (-1) 1 8 false 0 = some ([76, 36, 8], 4, 0) := p0
  have c := B.wkC16 p0
  unfold B.l8_wakes.f
  simp only [a1, a2, a3, m, r, p, c, Option.bind_some]
  simp
theorem put_f (reg k R base idx sc dp : Int) (rip : Bool) (im : Int) : operand_Put.f reg k R base idx sc dp rip im = some (B.putF reg k R base idx sc dp rip im) := by
  show G.Put reg k R base idx sc dp rip im = _
  rw [G.Put_eq]
  rfl
end Go.Proofs.YtppeidopijnnlaaDoor.C
namespace Go.Proofs.YtppeidopijnnlaaDoor.C
open Go.RowKit Go.Proofs.YtppeidopijnnlaaDoorW.PrintWords Go.Proofs.YtppeidopijnnlaaDoorW.PrintLast Go.Proofs.YtppeidopijnnlaaDoorW.PrintMore Go.RF
set_option linter.unusedVariables false
set_option linter.unusedSimpArgs false
attribute [local go_sem] max2_int min2_int max_two min_two
attribute [local go_sem high] eqA23
theorem back_count (k base idx dp : Int) (rip : Bool) : 1 ≤ B.headN k base idx rip + B.widN k base dp rip ∧ B.headN k base idx rip + B.widN k base dp rip ≤ 6 := by
  have h := (B.formF_wd base dp).2
  unfold B.headN B.widN
  by_cases h1 : k = 1
  · simp only [if_pos h1]; omega
  · simp only [if_neg h1]
    cases rip
    · simp only [Bool.false_eq_true, if_false]
      split <;> omega
    · simp only [if_true]; omega
theorem wf_u8b {x : Int} (h : (Lit.int .u8 x).wf = true) : 0 ≤ x ∧ x < 256 := by
  have h' : IntKind.u8.min ≤ x ∧ x ≤ IntKind.u8.max := by simpa [Lit.wf] using h
  have e1 : IntKind.u8.min = 0 := rfl
  have e2 : IntKind.u8.max = 255 := rfl
  omega
theorem take_g (l : List Int) (a : Int) (r : B.TakeT) (hl : ∀ y ∈ l, 0 ≤ y ∧ y < 256) (h0 : 0 ≤ a) (h1 : a < 256) (h : B.takeF l a = r) : G.Take l a = some r := by
  show B.G.Take l a = _
  rw [B.G.Take_eq]
  unfold B.takeO
  rw [if_pos ⟨hl, h0, h1⟩, h]
theorem heap_lt {W : World} {b : Nat} {o : Obj} (h : W.heap[b]? = some o) : b < W.heap.size := (Array.getElem?_eq_some_iff.1 h).1
set_option maxHeartbeats 8000000 in
set_option maxRecDepth 100000 in
theorem back_long (reg k R base idx sc dp : Int) (rip : Bool) (im : Int) (A2 : Option Addr) (c2 : Nat) (l2 : List Int) (w : World) (hl : (l2.length : Int) > 20) :
    Calls Tryd.prog 3 #[.int .i64 reg, .agg #[.int .u8 k, .int .i64 R, .int .i64 base, .int .i64 idx, .int .i64 sc, .int .i64 dp, .bool rip, .int .i64 im], .slice A2 l2.length c2] w fun e w' => e = .returned (.bool true) ∧ Below w.heap.size w w' := by
  have c3b0 : decide (20 < (l2.length : Int)) = true := decide_eq_true hl
  have c3b1 : decide (20 < l2.length) = true := decide_eq_true (by omega)
  have HW := Aside0.mk wakes_f
  clear hl
  go_enter Tryd.func3, Tryd.ntmps3
  go_wp2_with (first | (go_at_call 8; (with_reducible refine (l8_wakes.calls true _ HW.out).mono ?_); rintro e w1 ⟨rfl, hb⟩))
  go_ret
  exact ⟨rfl, below_step (bX_ (Below.refl _ _) _) hb⟩
set_option maxHeartbeats 8000000 in
set_option maxRecDepth 100000 in
theorem back_not (reg k R base idx sc dp : Int) (rip : Bool) (im : Int) (A2 : Option Addr) (c2 : Nat) (l2 : List Int) (w : World) (hT : Tab w) (hl : ¬ (l2.length : Int) > 20) (hN : ¬ (0 ≤ reg ∧ reg ≤ 15 ∧ B.rightF k R base idx sc dp rip im = true)) :
    Calls Tryd.prog 3 #[.int .i64 reg, .agg #[.int .u8 k, .int .i64 R, .int .i64 base, .int .i64 idx, .int .i64 sc, .int .i64 dp, .bool rip, .int .i64 im], .slice A2 l2.length c2] w fun e w' => e = .returned (.bool true) ∧ Below w.heap.size w w' := by
  have c3b0 : decide (20 < (l2.length : Int)) = false := decide_eq_false hl
  have c3b1 : decide (20 < l2.length) = false := decide_eq_false (by omega)
  have HW := Aside0.mk wakes_f
  have HT := Aside0.mk hT
  have HR := Aside0.mk (refRight 0 k R base idx sc dp rip im)
  have hB0 := bX_ (Below.refl w.heap.size w) (.cells #[.int .u8 k, .int .i64 R, .int .i64 base, .int .i64 idx, .int .i64 sc, .int .i64 dp, .bool rip, .int .i64 im] 23)
  have HB0 := Aside0.mk hB0
  have HT1 := Aside0.mk (HT.out.below hB0)
  have HNEW := Aside0.mk (World.alloc_heap_new w (.cells #[.int .u8 k, .int .i64 R, .int .i64 base, .int .i64 idx, .int .i64 sc, .int .i64 dp, .bool rip, .int .i64 im] 23))
  clear hB0
  have hP : G.Put reg k R base idx sc dp rip im = some ([], 0, 2) := by
    have := put_f reg k R base idx sc dp rip im
    unfold B.putF at this
    rw [if_neg hN] at this
    exact this
  have HP := Aside0.mk hP
  clear hl hP hT
  by_cases h0 : reg < 0
  · have d0 : decide (reg < 0) = true := decide_eq_true h0
    clear hN h0
    go_enter Tryd.func3, Tryd.ntmps3
    go_wp2_with (first | (go_at_call 9; (with_reducible refine (G.Put_calls reg k R base idx sc dp rip im [] 0 2 _ HT1.out HP.out).mono ?_); rintro e w1 ⟨v0, rfl, ho, hb⟩; obtain ⟨A0, c0, rfl⟩ := Kd.R_slice ho; have hc0 := (Kd.R_reads' ho).2.1; have hc0i : ((0 : Nat) : Int) - 1 ≤ (c0 : Int) := (by omega); have BO := Aside0.mk ((hb.block w.heap.size (by simp)).trans HNEW.out); obtain ⟨⟨q0, q1, q2, q3, q4, q5, q6, q7⟩, -⟩ := B.rows8 BO.out; have HO := Aside0.mk ho; have HB := Aside0.mk (below_step HB0.out hb); clear hb ho) | (go_at_call 8; (with_reducible refine (l8_wakes.calls true _ HW.out).mono ?_); rintro e w9 ⟨rfl, hb3⟩))
    go_ret
    exact ⟨rfl, below_step HB.out hb3⟩
  have d0 : decide (reg < 0) = false := decide_eq_false h0
  by_cases h1 : reg > 15
  · have d1 : decide (15 < reg) = true := decide_eq_true h1
    clear hN h0 h1
    go_enter Tryd.func3, Tryd.ntmps3
    go_wp2_with (first | (go_at_call 9; (with_reducible refine (G.Put_calls reg k R base idx sc dp rip im [] 0 2 _ HT1.out HP.out).mono ?_); rintro e w1 ⟨v0, rfl, ho, hb⟩; obtain ⟨A0, c0, rfl⟩ := Kd.R_slice ho; have hc0 := (Kd.R_reads' ho).2.1; have hc0i : ((0 : Nat) : Int) - 1 ≤ (c0 : Int) := (by omega); have BO := Aside0.mk ((hb.block w.heap.size (by simp)).trans HNEW.out); obtain ⟨⟨q0, q1, q2, q3, q4, q5, q6, q7⟩, -⟩ := B.rows8 BO.out; have HO := Aside0.mk ho; have HB := Aside0.mk (below_step HB0.out hb); clear hb ho) | (go_at_call 8; (with_reducible refine (l8_wakes.calls true _ HW.out).mono ?_); rintro e w9 ⟨rfl, hb3⟩))
    go_ret
    exact ⟨rfl, below_step HB.out hb3⟩
  have d1 : decide (15 < reg) = false := decide_eq_false h1
  have hr : B.rightF k R base idx sc dp rip im = false := by
    cases hb : B.rightF k R base idx sc dp rip im
    · rfl
    · exact absurd ⟨by omega, by omega, hb⟩ hN
  rw [hr] at HR
  clear hN h0 h1 hr
  go_enter Tryd.func3, Tryd.ntmps3
  go_wp2_with (first | (go_at_call 9; (with_reducible refine (G.Put_calls reg k R base idx sc dp rip im [] 0 2 _ HT1.out HP.out).mono ?_); rintro e w1 ⟨v0, rfl, ho, hb⟩; obtain ⟨A0, c0, rfl⟩ := Kd.R_slice ho; have hc0 := (Kd.R_reads' ho).2.1; have hc0i : ((0 : Nat) : Int) - 1 ≤ (c0 : Int) := (by omega); have BO := Aside0.mk ((hb.block w.heap.size (by simp)).trans HNEW.out); obtain ⟨⟨q0, q1, q2, q3, q4, q5, q6, q7⟩, -⟩ := B.rows8 BO.out; have HO := Aside0.mk ho; have HB := Aside0.mk (below_step HB0.out hb); clear hb ho) | (go_at_call 10; (with_reducible refine (r8_Right.calls 2 k R base idx sc dp rip im false _ HR.out).mono ?_); rintro e w2 ⟨rfl, hb⟩; have n0 := Aside0.mk (below_step HB.out hb); have n1 := Aside0.mk (Kd.R_below HO.out hb); have n2 := Aside0.mk ((hb.block w.heap.size (by have := HB.out.size; have := heap_lt BO.out; omega)).trans BO.out); clear HB HO BO q0 q1 q2 q3 q4 q5 q6 q7 hb; have HB := n0; have HO := n1; have BO := n2; clear n0 n1 n2; obtain ⟨⟨q0, q1, q2, q3, q4, q5, q6, q7⟩, -⟩ := B.rows8 BO.out) | (go_at_call 8; (with_reducible refine (l8_wakes.calls true _ HW.out).mono ?_); rintro e w9 ⟨rfl, hb3⟩))
  go_ret
  exact ⟨rfl, below_step HB.out hb3⟩
set_option maxHeartbeats 8000000 in
set_option maxRecDepth 100000 in
theorem back_right (reg k R base idx sc dp : Int) (rip : Bool) (im : Int) (A2 : Option Addr) (c2 : Nat) (l2 : List Int) (w : World) (hT : Tab w) (hl : ¬ (l2.length : Int) > 20) (hr2 : Kd.C (Kd.int .u8) w A2 l2.length l2) (hc2 : l2.length ≤ c2) (hgood : ∀ y ∈ l2, 0 ≤ y ∧ y < 256) (hreg : 0 ≤ reg ∧ reg ≤ 15) (hR : B.RightP k R base idx sc dp rip im) :
    Calls Tryd.prog 3 #[.int .i64 reg, .agg #[.int .u8 k, .int .i64 R, .int .i64 base, .int .i64 idx, .int .i64 sc, .int .i64 dp, .bool rip, .int .i64 im], .slice A2 l2.length c2] w fun e w' => e = .returned (.bool true) ∧ Below w.heap.size w w' := by
  have c3b0 : decide (20 < (l2.length : Int)) = false := decide_eq_false hl
  have c3b1 : decide (20 < l2.length) = false := decide_eq_false (by omega)
  have HW := Aside0.mk wakes_f
  have HT := Aside0.mk hT
  have HR := Aside0.mk (refRight 0 k R base idx sc dp rip im)
  have hB0 := bX_ (Below.refl w.heap.size w) (.cells #[.int .u8 k, .int .i64 R, .int .i64 base, .int .i64 idx, .int .i64 sc, .int .i64 dp, .bool rip, .int .i64 im] 23)
  have HB0 := Aside0.mk hB0
  have HT1 := Aside0.mk (HT.out.below hB0)
  have HNEW := Aside0.mk (World.alloc_heap_new w (.cells #[.int .u8 k, .int .i64 R, .int .i64 base, .int .i64 idx, .int .i64 sc, .int .i64 dp, .bool rip, .int .i64 im] 23))
  clear hB0
  obtain ⟨b, rex, hput, hlen, htk, hcut, hx0, hx8, hbytes⟩ := B.put_back reg k R base idx sc dp rip im hreg hR
  have hP : G.Put reg k R base idx sc dp rip im = some (b, rex, 0) := by
    have := put_f reg k R base idx sc dp rip im
    rw [hput] at this
    exact this
  have HP := Aside0.mk hP
  have hrr : B.rightF k R base idx sc dp rip im = true := (B.rightF_iff k R base idx sc dp rip im).2 hR
  rw [hrr] at HR
  have hb1 : 1 ≤ b.length ∧ b.length ≤ 6 := by
    rw [hlen]
    exact back_count k base idx dp rip
  obtain ⟨hbl, hbh⟩ := hb1
  have hbi : (1 : Int) ≤ (b.length : Int) := by omega
  have hbj : (b.length : Int) ≤ 6 := by omega
  have d0 : decide (reg < 0) = false := decide_eq_false (by omega)
  have d1 : decide (15 < reg) = false := decide_eq_false (by omega)
  have hby : ∀ y ∈ b ++ l2, 0 ≤ y ∧ y < 256 := fun y hy => by
    rcases List.mem_append.1 hy with h | h
    · exact hbytes y h
    · exact hgood y h
  have HT1_ := Aside0.mk (take_g (b ++ l2) rex _ hby hx0 (by omega) (htk l2))
  have HT2_ := Aside0.mk (take_g (b.take (b.length - 1)) rex (0, 0, 0, 0, 0, 0, 0, false, 0, 0, 80) (fun y hy => hbytes y (List.mem_of_mem_take hy)) hx0 (by omega) (hcut (b.length - 1) (by omega)))
  clear hby hgood
  have HC2 := Aside0.mk hr2
  have HCC := Aside0.mk hc2
  have HL := Aside0.mk hl
  clear hl hT hP hr2 hc2 hrr hput hlen htk hcut hbytes hR
  go_enter Tryd.func3, Tryd.ntmps3
  go_wp2_with (first | (go_at_call 9; (with_reducible refine (G.Put_calls reg k R base idx sc dp rip im b rex 0 _ HT1.out HP.out).mono ?_); rintro e w1 ⟨v0, rfl, ho, hb⟩; obtain ⟨A0, c0, rfl⟩ := Kd.R_slice ho; have hc0 := (Kd.R_reads' ho).2.1; have hc0i : ((b.length : Nat) : Int) - 1 ≤ (c0 : Int) := (by omega); have BO := Aside0.mk ((hb.block w.heap.size (by simp)).trans HNEW.out); obtain ⟨⟨q0, q1, q2, q3, q4, q5, q6, q7⟩, -⟩ := B.rows8 BO.out; have HO := Aside0.mk ho; have HB := Aside0.mk (below_step HB0.out hb); clear hb ho) | (go_at_call 10; (with_reducible refine (r8_Right.calls 2 k R base idx sc dp rip im true _ HR.out).mono ?_); rintro e w2 ⟨rfl, hb⟩; have n0 := Aside0.mk (below_step HB.out hb); have n1 := Aside0.mk (Kd.R_below HO.out hb); have n2 := Aside0.mk ((hb.block w.heap.size (by have := HB.out.size; have := heap_lt BO.out; omega)).trans BO.out); clear HB HO BO q0 q1 q2 q3 q4 q5 q6 q7 hb; have HB := n0; have HO := n1; have BO := n2; clear n0 n1 n2; obtain ⟨⟨q0, q1, q2, q3, q4, q5, q6, q7⟩, -⟩ := B.rows8 BO.out) | ((with_reducible refine gate_dst (N := 55) rfl ?_); refine Kd.R_lit (Kd.int .u8) _ 5 ?hg (N := 55) ?hd (xs := ([] : List Int)) (inner := []) (ok := fun _ => True) (okp := fun _ => True) ?hr ?hp (fun _ hk => hk) trivial (Below.refl _ _) (Nat.le_refl _) (by simp) ?_; (case hd => rfl); (case hg => rfl); (case hr => first | (go_simp; done) | (go_simp; rfl)); (case hp => exact (Reps.none _ _)); intro v3 w3 ho3 hb3 hg_ hnew_; have O3 := Aside0.mk ho3; have B3 := Aside0.mk hb3; clear ho3 hb3 hg_ hnew_ q0 q1 q2 q3 q4 q5 q6 q7) | ((with_reducible refine gate_builtin (b := .append) (xs := #[.tmp 55, .tmp 56]) rfl ?_); at_builtin; refine Kd.R_append_rows (Kd.int .u8) (w0 := w2) w2.heap.size rfl (.tmp 55) (.tmp 56) 24 5 (.int .u8 0) 1 rfl Tryd.underlying24 info5 rfl (by decide) (by omega) v3 [] b A0 b.length c0 (fun _ => True) (fun _ => False) rfl rfl O3.out (Kd.C_below (Kd.R_reads' HO.out).2.2 B3.out) (fun _ _ h => h) (fun _ h => h.elim) (fun _ _ => trivial) B3.out B3.out.size (by simp; have := HL.out; omega) ?_; intro v4 w4 ho hb hg hat; rw [List.nil_append] at ho; have O4 := Aside0.mk ho; have B4 := Aside0.mk hb; clear ho hb hg hat) | ((with_reducible refine gate_builtin (b := .append) (xs := #[.tmp 57, .tmp 58]) rfl ?_); at_builtin; refine Kd.R_append_rows (Kd.int .u8) (w0 := w2) w2.heap.size rfl (.tmp 57) (.tmp 58) 24 5 (.int .u8 0) 1 rfl Tryd.underlying24 info5 rfl (by decide) (by omega) v4 b l2 A2 l2.length c2 (fun _ => True) (fun _ => False) rfl rfl O4.out (Kd.C_below HC2.out (below_step HB.out B4.out)) (fun _ _ h => h) (fun _ h => h.elim) (fun _ _ => trivial) B4.out B4.out.size (by simp; have := HL.out; omega) ?_; intro v5 w5 ho hb hg hat; obtain ⟨A5, c5, rfl⟩ := Kd.R_slice ho; have O5 := Aside0.mk ho; have B5 := Aside0.mk hb; clear ho hb hg hat) | (go_at_call 11; rw [show b.length + l2.length = (b ++ l2).length from List.length_append.symm]; (with_reducible refine (G.Take_calls A5 c5 (b ++ l2) rex reg k R base idx sc dp rip im b.length 0 _ (Kd.R_reads' O5.out).2.2 (Kd.R_reads' O5.out).2.1 HT1_.out).mono ?_); rintro e w6 ⟨rfl, hb⟩; have B6 := Aside0.mk (below_step B5.out hb); have B6_ := Aside0.mk hb; clear hb) | (go_at_call 11; rw [show b.length - 1 = (b.take (b.length - 1)).length from (List.length_take_of_le (by omega)).symm]; (with_reducible refine (G.Take_calls A0 c0 (b.take (b.length - 1)) rex 0 0 0 0 0 0 0 false 0 0 80 _ (Kd.C_alloc (Kd.C_take (Kd.C_below (Kd.R_reads' HO.out).2.2 B6.out) (by omega)) _) (by rw [List.length_take_of_le (by omega)]; omega) HT2_.out).mono ?_); rintro e w7 ⟨rfl, hb⟩; have B7 := Aside0.mk (below_step (bX_ B6.out _) hb); have X7 := Aside0.mk ((hb.block w6.heap.size (by simp)).trans (World.alloc_heap_new w6 _)); have BO7 := Aside0.mk ((B7.out.block w.heap.size (heap_lt BO.out)).trans BO.out); clear hb; have y := fun o => (B.rows8 ((Below.heap_alloc w7 o w.heap.size (heap_lt BO7.out)).trans BO7.out)).1; have z := fun o => (B.rows8 ((Below.heap_alloc w7 o w6.heap.size (heap_lt X7.out)).trans X7.out)).1; have q0 := fun o => (y o).1; have u0 := fun o => (z o).1; have q1 := fun o => (y o).2.1; have u1 := fun o => (z o).2.1; have q2 := fun o => (y o).2.2.1; have u2 := fun o => (z o).2.2.1; have q3 := fun o => (y o).2.2.2.1; have u3 := fun o => (z o).2.2.2.1; have q4 := fun o => (y o).2.2.2.2.1; have u4 := fun o => (z o).2.2.2.2.1; have q5 := fun o => (y o).2.2.2.2.2.1; have u5 := fun o => (z o).2.2.2.2.2.1; have q6 := fun o => (y o).2.2.2.2.2.2.1; have u6 := fun o => (z o).2.2.2.2.2.2.1; have q7 := fun o => (y o).2.2.2.2.2.2.2; have u7 := fun o => (z o).2.2.2.2.2.2.2; clear y z) | (go_at_call 8; (with_reducible refine (l8_wakes.calls true _ HW.out).mono ?_); rintro e w9 ⟨rfl, hb3⟩))
  go_ret
  exact ⟨rfl, below_step HB.out (below_step (bX_ B7.out _) hb3)⟩
open Classical in
noncomputable def l8_OperandBack.f (a0 a1_0 a1_1 a1_2 a1_3 a1_4 a1_5 : Int) (a1_6 : Bool) (a1_7 : Int) (l2 : List Int) : Option Bool := if ∀ y ∈ l2, 0 ≤ y ∧ y < 256 then some true else none
theorem l8_OperandBack.calls (reg k R base idx sc dp : Int) (rip : Bool) (im : Int) (A2 : Option Addr) (c2 : Nat) (l2 : List Int) (r : Bool) (w : World) (hr2 : Kd.C (Kd.int .u8) w A2 l2.length l2) (hc2 : l2.length ≤ c2) (hT : Tab w) (h : l8_OperandBack.f reg k R base idx sc dp rip im l2 = some r) :
    Calls Tryd.prog 3 #[.int .i64 reg, .agg #[.int .u8 k, .int .i64 R, .int .i64 base, .int .i64 idx, .int .i64 sc, .int .i64 dp, .bool rip, .int .i64 im], .slice A2 l2.length c2] w fun e w' => e = .returned (.bool r) ∧ Below w.heap.size w w' := by
  unfold l8_OperandBack.f at h
  by_cases hg : ∀ y ∈ l2, 0 ≤ y ∧ y < 256
  · rw [if_pos hg] at h
    obtain rfl := Option.some.inj h
    by_cases hl : (l2.length : Int) > 20
    · exact back_long reg k R base idx sc dp rip im A2 c2 l2 w hl
    by_cases hN : 0 ≤ reg ∧ reg ≤ 15 ∧ B.rightF k R base idx sc dp rip im = true
    · exact back_right reg k R base idx sc dp rip im A2 c2 l2 w hT hl hr2 hc2 hg ⟨hN.1, hN.2.1⟩ ((B.rightF_iff k R base idx sc dp rip im).1 hN.2.2)
    · exact back_not reg k R base idx sc dp rip im A2 c2 l2 w hT hl hN
  · rw [if_neg hg] at h
    cases h
theorem Pure.OperandBack (a0 a1_0 a1_1 a1_2 a1_3 a1_4 a1_5 : Int) (a1_6 : Bool) (a1_7 : Int) (l2 : List Int) (w0 : (Lit.int .i64 a0).wf = true) (hg : GoodOp a1_0 a1_1 a1_2 a1_3 a1_4 a1_5 a1_7) (hg2 : ∀ y ∈ l2, (Lit.int .u8 y).wf = true) : l8_OperandBack.f a0 a1_0 a1_1 a1_2 a1_3 a1_4 a1_5 a1_6 a1_7 l2 = some true := if_pos (fun y hy => wf_u8b (hg2 y hy))
end Go.Proofs.YtppeidopijnnlaaDoor.C
