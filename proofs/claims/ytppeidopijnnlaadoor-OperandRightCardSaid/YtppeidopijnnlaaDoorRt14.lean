/- The law OperandRight, of what its walk computes. The law sundiallaw08_OperandRight answers true for every input that the row admits, and the input reads as it did. Conditions: those of the given row alone. (Printed by rowgen.py out of the walk and the plain law.) -/
import Derived.Test.YtppeidopijnnlaaDoorRt12
import Derived.Test.YtppeidopijnnlaaDoorRt10
import Derived.Test.YtppeidopijnnlaaDoorRt13
import Derived.Test.YtppeidopijnnlaaDoorTie
import Derived.Test.YtppeidopijnnlaaDoorCards
import Derived.Lay
import Derived.LaidOnce
import Derived.SevenTiedAt
import Derived.Test.YtppeidopijnnlaaDoorRows
import Derived.WalkKit
import Derived.ProofKit
import Derived.OpenShut
import Derived.ShutString
import Derived.ChangeOld
import Derived.Below
import Derived.SizedLaws
namespace Go.Proofs.YtppeidopijnnlaaDoor.C
open Go.RowKit Go.Proofs.YtppeidopijnnlaaDoorW.PrintWords Go.Proofs.YtppeidopijnnlaaDoorW.PrintLast Go.Proofs.YtppeidopijnnlaaDoorW.PrintMore Go.RF
set_option linter.unusedVariables false
set_option linter.unusedSimpArgs false
theorem wf_u8 {x : Int} (h : (Lit.int .u8 x).wf = true) : 0 ≤ x ∧ x < 256 := by
  have h' : IntKind.u8.min ≤ x ∧ x ≤ IntKind.u8.max := by simpa [Lit.wf] using h
  have e1 : IntKind.u8.min = 0 := rfl
  have e2 : IntKind.u8.max = 255 := rfl
  omega
theorem take_f (l : List Int) (a : Int) (hl : ∀ y ∈ l, 0 ≤ y ∧ y < 256) (h0 : 0 ≤ a) (h1 : a < 256) : operand_Take.f l a = some (B.takeF l a) := by
  show B.G.Take l a = _
  rw [B.G.Take_eq]
  unfold B.takeO
  rw [if_pos ⟨hl, h0, h1⟩]
def TakeOk (l : List Int) (T : B.TakeT) : Prop := (T = B.failT ∧ l.length < 6) ∨ ∃ r k R base idx sc dp rip, ∃ n : Nat, T = (r, k, R, base, idx, sc, dp, rip, 0, (n : Int), 0) ∧ 0 ≤ r ∧ r ≤ 15 ∧ B.RightP k R base idx sc dp rip 0 ∧ 1 ≤ n ∧ n ≤ l.length ∧ B.headN k base idx rip + B.widN k base dp rip ≤ n
theorem disp_in (l : List Int) (hl : ∀ y ∈ l, 0 ≤ y ∧ y < 256) (u W : Nat) (h : u + W ≤ l.length) (hW : W = 0 ∨ W = 1 ∨ W = 4) :
    ∃ dp, B.dispOf W ((l.drop u).take W) = dp ∧ (-2147483648 ≤ dp ∧ dp < 2147483648) ∧ (W = 0 → dp = 0) ∧ (W = 1 → -128 ≤ dp ∧ dp < 128) := by
  have hg : ∀ y ∈ (l.drop u).take W, 0 ≤ y ∧ y < 256 := fun y hy => hl y (List.mem_of_mem_drop (List.mem_of_mem_take hy))
  have hlen : ((l.drop u).take W).length = W := by rw [List.length_take, List.length_drop]; omega
  obtain ⟨m, hm⟩ : ∃ m, (l.drop u).take W = m := ⟨_, rfl⟩
  rw [hm] at hg hlen
  rw [hm]
  clear hm
  rcases hW with rfl | rfl | rfl
  · obtain rfl := List.eq_nil_of_length_eq_zero hlen
    exact ⟨0, rfl, by decide, fun _ => rfl, fun h => absurd h (by decide)⟩
  · match m, hlen with
    | [x], _ =>
      have := hg x (by simp)
      refine ⟨_, B.disp1 x, by omega, fun h => absurd h (by decide), fun _ => by omega⟩
  · match m, hlen with
    | [x0, x1, x2, x3], _ =>
      have h0 := hg x0 (by simp)
      have h1 := hg x1 (by simp)
      have h2 := hg x2 (by simp)
      have h3 := hg x3 (by simp)
      refine ⟨_, B.disp4 x0 x1 x2 x3 h0 h1 h2 h3, by omega, fun h => absurd h (by decide), fun h => absurd h (by decide)⟩
theorem rest_ok (l : List Int) (hl : ∀ y ∈ l, 0 ≤ y ∧ y < 256) (rex : Int) (h0 : 0 ≤ rex) (h1 : rex < 256) (u W : Nat) (hW : W = 0 ∨ W = 1 ∨ W = 4) (hu : u = 1 ∨ u = 2) (used wd : Int) (eu : used = u) (ew : wd = W) (k R base idx sc : Int) (rip : Bool)
    (hok : ∀ dp, (-2147483648 ≤ dp ∧ dp < 2147483648) → (W = 0 → dp = 0) → (W = 1 → -128 ≤ dp ∧ dp < 128) → B.RightP k R base idx sc dp rip 0 ∧ B.headN k base idx rip + B.widN k base dp rip ≤ u + W) :
    TakeOk l (B.takeRest l rex used wd k R base idx sc rip) := by
  subst eu ew
  unfold B.takeRest
  by_cases hn : (l.length : Int) < u + W
  · rw [if_pos hn]
    exact .inl ⟨rfl, by omega⟩
  · rw [if_neg hn, Int.toNat_natCast, Int.toNat_natCast]
    obtain ⟨dp, hd, r1, r2, r3⟩ := disp_in l hl u W (by omega) hW
    obtain ⟨hR, hH⟩ := hok dp r1 r2 r3
    rw [hd]
    have hm := B.mo_eq (rex / 4) (by omega) (by omega)
    have hb := B.getD_range l hl 0
    refine .inr ⟨_, k, R, base, idx, sc, dp, rip, u + W, rfl, ?_, ?_, hR, by omega, by omega, hH⟩
    · rw [hm]; omega
    · rw [hm]; omega
theorem head_le (base idx : Int) (rip : Bool) : B.headN 2 base idx rip ≤ 2 := by unfold B.headN; rw [if_neg (by decide)]; split; omega; split <;> omega
theorem wid_le (base dp : Int) (W : Nat) (h0 : 0 ≤ base) (hb : base < 16) (hW : W = 0 ∨ W = 1 ∨ W = 4) (h5 : W = 0 → base % 8 ≠ 5) (r2 : W = 0 → dp = 0) (r3 : W = 1 → -128 ≤ dp ∧ dp < 128) : B.widN 2 base dp false ≤ W := by
  have e : B.widN 2 base dp false = (B.formF base dp).2.toNat := rfl
  rw [e]
  unfold B.formF
  rw [if_neg (by omega), (B.low_high base h0 hb).1]
  by_cases hd : dp = 0 ∧ base % 8 ≠ 5
  · rw [if_pos hd]; exact Nat.zero_le _
  · rw [if_neg hd]
    by_cases hw : wrap64 (IntKind.i8.wrap dp) = dp
    · rw [if_pos hw]
      show 1 ≤ W
      rcases hW with h | h | h
      · exact absurd ⟨r2 h, h5 h⟩ hd
      · omega
      · omega
    · rw [if_neg hw]
      show 4 ≤ W
      rcases hW with h | h | h
      · exact absurd ⟨r2 h, h5 h⟩ hd
      · exact absurd ((B.fits8 dp).2 (r3 h)) hw
      · omega
theorem widW (m : Int) (h0 : 0 ≤ m) (h1 : m < 3) : ∃ W : Nat, B.wid m = W ∧ (W = 0 ∨ W = 1 ∨ W = 4) ∧ (W = 0 → m = 0) := by
  unfold B.wid
  by_cases a : m = 1
  · rw [if_pos a]; exact ⟨1, rfl, by decide, fun h => absurd h (by decide)⟩
  · rw [if_neg a]
    by_cases b : m = 2
    · rw [if_pos b]; exact ⟨4, rfl, by decide, fun h => absurd h (by decide)⟩
    · rw [if_neg b]; exact ⟨0, rfl, by decide, fun _ => by omega⟩
theorem mo_in (a : Int) (h0 : 0 ≤ a) (h1 : a < 256) : B.mo a = 0 ∨ B.mo a = 8 := by rw [B.mo_eq a h0 h1]; omega
theorem pow_in (a : Int) (h0 : 0 ≤ a) (h1 : a < 4) : (2 : Int) ^ a.toNat = 1 ∨ (2 : Int) ^ a.toNat = 2 ∨ (2 : Int) ^ a.toNat = 4 ∨ (2 : Int) ^ a.toNat = 8 := by
  have : a = 0 ∨ a = 1 ∨ a = 2 ∨ a = 3 := by omega
  rcases this with rfl | rfl | rfl | rfl <;> decide
set_option maxHeartbeats 2000000 in
theorem take_ok (l : List Int) (hl : ∀ y ∈ l, 0 ≤ y ∧ y < 256) (rex : Int) (h0 : 0 ≤ rex) (h1 : rex < 256) : TakeOk l (B.takeF l rex) := by
  have hb := B.getD_range l hl 0
  have hb1 := B.getD_range l hl 1
  have m0 := mo_in rex h0 h1
  have m1 := mo_in (rex / 2) (by omega) (by omega)
  have fits := fun dp => B.fits32 dp
  unfold B.takeF
  by_cases hn : l.length = 0
  · rw [if_pos hn]; exact .inl ⟨rfl, by omega⟩
  rw [if_neg hn]
  simp only
  generalize B.mo rex = x0 at m0 ⊢
  generalize B.mo (rex / 2) = x1 at m1 ⊢
  by_cases h3 : l.getD 0 0 / 64 = 3
  · rw [if_pos h3]
    refine rest_ok l hl rex h0 h1 1 0 (by decide) (by decide) _ _ rfl (by rw [h3]; rfl) _ _ _ _ _ _ (fun dp r1 r2 r3 => ⟨.inl ⟨rfl, by omega, by omega, rfl, rfl, rfl, r2 rfl, rfl, rfl⟩, Nat.le_refl _⟩)
  rw [if_neg h3]
  obtain ⟨W, eW, hW, hW0⟩ := widW (l.getD 0 0 / 64) (by omega) (by omega)
  by_cases h4 : l.getD 0 0 % 8 = 4
  · rw [if_pos h4]
    by_cases h2 : l.length < 2
    · rw [if_pos h2]; exact .inl ⟨rfl, by omega⟩
    rw [if_neg h2]
    have hI : -1 ≤ (if l.getD 1 0 / 8 % 8 + x1 = 4 then (-1 : Int) else l.getD 1 0 / 8 % 8 + x1) ∧ (if l.getD 1 0 / 8 % 8 + x1 = 4 then (-1 : Int) else l.getD 1 0 / 8 % 8 + x1) < 16 ∧ (if l.getD 1 0 / 8 % 8 + x1 = 4 then (-1 : Int) else l.getD 1 0 / 8 % 8 + x1) ≠ 4 := by split <;> omega
    have hp := pow_in (l.getD 1 0 / 64) (by omega) (by omega)
    have hS : (if l.getD 1 0 / 8 % 8 + x1 = 4 then (-1 : Int) else l.getD 1 0 / 8 % 8 + x1) < 0 ∧ (if l.getD 1 0 / 8 % 8 + x1 = 4 then (1 : Int) else 2 ^ (l.getD 1 0 / 64).toNat) = 1 ∨
        0 ≤ (if l.getD 1 0 / 8 % 8 + x1 = 4 then (-1 : Int) else l.getD 1 0 / 8 % 8 + x1) ∧ ((if l.getD 1 0 / 8 % 8 + x1 = 4 then (1 : Int) else 2 ^ (l.getD 1 0 / 64).toNat) = 1 ∨ (if l.getD 1 0 / 8 % 8 + x1 = 4 then (1 : Int) else 2 ^ (l.getD 1 0 / 64).toNat) = 2 ∨ (if l.getD 1 0 / 8 % 8 + x1 = 4 then (1 : Int) else 2 ^ (l.getD 1 0 / 64).toNat) = 4 ∨ (if l.getD 1 0 / 8 % 8 + x1 = 4 then (1 : Int) else 2 ^ (l.getD 1 0 / 64).toNat) = 8) := by
      by_cases c : l.getD 1 0 / 8 % 8 + x1 = 4
      · rw [if_pos c, if_pos c]; exact .inl ⟨by decide, rfl⟩
      · rw [if_neg c, if_neg c]; exact .inr ⟨by omega, hp⟩
    generalize (if l.getD 1 0 / 8 % 8 + x1 = 4 then (-1 : Int) else l.getD 1 0 / 8 % 8 + x1) = ix at hI hS ⊢
    generalize (if l.getD 1 0 / 8 % 8 + x1 = 4 then (1 : Int) else 2 ^ (l.getD 1 0 / 64).toNat) = sx at hS ⊢
    clear hp
    by_cases h5 : l.getD 1 0 % 8 = 5 ∧ l.getD 0 0 / 64 = 0
    · rw [if_pos h5]
      refine rest_ok l hl rex h0 h1 2 4 (by decide) (by decide) _ _ rfl rfl _ _ _ _ _ _ (fun dp r1 r2 r3 => ⟨.inr ⟨rfl, rfl, rfl, (fits dp).2 r1, .inr ⟨rfl, by decide, by decide, hI.1, hI.2.1, hI.2.2, hS⟩⟩, ?_⟩)
      have := head_le (-1) ix false
      exact Nat.add_le_add this (Nat.le_refl 4)
    rw [if_neg h5]
    refine rest_ok l hl rex h0 h1 2 W hW (by decide) _ _ rfl eW _ _ _ _ _ _ (fun dp r1 r2 r3 => ⟨.inr ⟨rfl, rfl, rfl, (fits dp).2 r1, .inr ⟨rfl, by omega, by omega, hI.1, hI.2.1, hI.2.2, hS⟩⟩, ?_⟩)
    exact Nat.add_le_add (head_le _ _ _) (wid_le _ dp W (by omega) (by omega) hW (fun hw => by have := hW0 hw; omega) r2 r3)
  rw [if_neg h4]
  by_cases h5 : l.getD 0 0 % 8 = 5 ∧ l.getD 0 0 / 64 = 0
  · rw [if_pos h5]
    exact rest_ok l hl rex h0 h1 1 4 (by decide) (by decide) _ _ rfl rfl _ _ _ _ _ _ (fun dp r1 r2 r3 => ⟨.inr ⟨rfl, rfl, rfl, (fits dp).2 r1, .inl ⟨rfl, rfl, rfl, rfl⟩⟩, Nat.le_refl _⟩)
  rw [if_neg h5]
  refine rest_ok l hl rex h0 h1 1 W hW (by decide) _ _ rfl eW _ _ _ _ _ _ (fun dp r1 r2 r3 => ⟨.inr ⟨rfl, rfl, rfl, (fits dp).2 r1, .inr ⟨rfl, by omega, by omega, by decide, by decide, by decide, .inl ⟨by decide, rfl⟩⟩⟩, ?_⟩)
  refine Nat.add_le_add ?_ (wid_le _ dp W (by omega) (by omega) hW (fun hw => by have := hW0 hw; omega) r2 r3)
  have e : B.headN 2 (l.getD 0 0 % 8 + x0) (-1) false = if (0 : Int) ≤ -1 ∨ l.getD 0 0 % 8 + x0 < 0 ∨ (l.getD 0 0 % 8 + x0) % 8 = 4 then 2 else 1 := rfl
  rw [e, if_neg (by omega)]
  exact Nat.le_refl _
theorem Pure.OperandRight (l0 : List Int) (a1 : Int) (hg : ∀ y ∈ l0, (Lit.int .u8 y).wf = true) (w1 : (Lit.int .u8 a1).wf = true) : ∃ k, sundiallaw08_OperandRight.f k l0 a1 = some true := by
  have hl : ∀ y ∈ l0, 0 ≤ y ∧ y < 256 := fun y hy => wf_u8 (hg y hy)
  have ha := wf_u8 w1
  refine ⟨2, ?_⟩
  unfold sundiallaw08_OperandRight.f
  by_cases hn : (l0.length : Int) > 20
  · rw [if_pos hn, wakes_f]; rfl
  rw [if_neg hn, take_f l0 a1 hl ha.1 ha.2]
  rcases take_ok l0 hl a1 ha.1 ha.2 with ⟨h, h6⟩ | ⟨r, k, R, base, idx, sc, dp, rip, n, h, hr0, hr1, hP, hn1, hn2, hh⟩
  · rw [h]
    have h6' : (l0.length : Int) < 6 := by omega
    simp only [B.failT, Option.bind_some]
    rw [if_neg (by decide), if_pos trivial, if_pos trivial, if_pos (by decide), if_pos h6', wakes_f]
    rfl
  · rw [h]
    simp only [Option.bind_some]
    obtain ⟨b, rex, hput, hlen, htk, -, hx0, hx1, hbb⟩ := B.put_back r k R base idx sc dp rip 0 ⟨hr0, hr1⟩ hP
    have ht := htk []
    rw [List.append_nil] at ht
    rw [if_pos trivial, put_f, hput]
    simp only [Option.bind_some]
    rw [take_f b rex hbb hx0 (by omega), ht]
    simp only [Option.bind_some]
    rw [refRight 0, (B.rightF_iff k R base idx sc dp rip 0).2 hP]
    simp only [Option.bind_some]
    rw [if_pos trivial, if_pos (show r ≥ 0 from hr0), if_pos (show r < 16 by omega), if_pos (show (n : Int) ≥ 1 by omega), if_pos (show (n : Int) ≤ (l0.length : Int) by omega), if_pos trivial, if_pos (show (b.length : Int) ≤ (n : Int) by omega), if_pos trivial, if_pos trivial, if_pos (by simp), if_pos trivial, wakes_f]
    rfl
end Go.Proofs.YtppeidopijnnlaaDoor.C
namespace Go.Proofs.YtppeidopijnnlaaDoor.operandRight
open Go.ChangeShapes Go.WideShapes Go.ChangeAt Go.RowKit
open Go.Proofs.YtppeidopijnnlaaDoorW.PrintWords
set_option linter.unusedVariables false
theorem own : ownKnob Tryd.prog.godebug = none := by kernel_rfl
theorem laidOut : laidOutB Tryd.prog = true := by kernel_rfl
set_option maxRecDepth 100000 in
theorem lifted (os : Os) (started : os.Started) (H : Type) (enc : TypeId × Value → H) :
    ReturnsInHanded {} Tryd.checked os 4 .any (fun w args => (Rows.operandRightSpec.pre enc Tryd.prog Tryd.f4 [] false w args ∧ laidMetH Tryd.prog Rows.operandRightRow.laid w) ∧ sizedMet enc Tryd.prog Tryd.f4 (OpenSpec.ofChange Rows.operandRightSpec) false w args) (Rows.operandRightSpec.post enc Tryd.prog Tryd.f4 false true false false) := by
  refine returnsInHanded_of_change_and (C := Tryd.checked) (X := fun w _ => laidMetH Tryd.prog Rows.operandRightRow.laid w) (fun _ _ _ hh h => h.of_heap hh) own started (by kernel_rfl) Tryd.func4
    (ChangeSpec.witness_shaped (enc := enc) (C := Tryd.checked) (os := os) (X := fun w _ => laidMetH Tryd.prog Rows.operandRightRow.laid w) false (World.laidAll Tryd.prog os Rows.operandRightRow.laid) #[.slice none 0 0, .int .u8 0] 8 (World.laidAll_os _ _ _)
      (World.shaped_of_ZipB (by kernel_rfl) (by kernel_rfl)) (by kernel_rfl) (by kernel_rfl) (by kernel_rfl)
      (by rw [MakeChecks.laidMetH_plain _ _ _ (by kernel_rfl)]; exact laidMet_laidAll _ (by kernel_rfl) (by kernel_rfl))) ?_
  intro W base args ds gs before hval0 hW hcnd hsz0 hL _
  rw [MakeChecks.laidMetH_plain _ _ _ (by kernel_rfl)] at hL
  have hval : ∀ (j : Nat) t v, Tryd.f4.params[j]? = some t → args[j]? = some v → Value.okWide Tryd.prog W .any base t v := hval0
  have hW' := hW
  obtain ⟨p, q, hA0, hV, rfl, hfz, hnd⟩ := hW
  have hA : DataW.TrodAll enc Tryd.prog W 0 (fun _ => true) true Tryd.f4.params.toList args.toList ds p := hA0
  rw [Tryd.params4] at hA hval
  obtain ⟨v0, vs0, d0, ds0, p0, q0, hargs, rfl, rfl, h0, r0⟩ := trodAll_cons hA
  obtain ⟨v1, vs1, d1, ds1, p1, q1, rfl, rfl, rfl, h1, r1⟩ := trodAll_cons r0
  obtain ⟨rfl, rfl, rfl⟩ := trodAll_nil r1
  obtain rfl : args = #[v0, v1] := by cases args; simp_all
  obtain ⟨rfl, rfl⟩ := trodVars_none hV
  have e0 := okWide_slice Tryd.underlying24 (hval 0 24 v0 rfl rfl)
  have k0 := h0
  have lt0 : ∀ x ∈ p0, x.block < W.heap.size := by obtain ⟨m, hm⟩ := k0; exact DataW.trod_lt m _ _ _ hm
  obtain ⟨A0, c0, l0, rfl, hc0, hC0, hg0⟩ := Go.Proofs.YtppeidopijnnlaaDoor.C.open_bytes e0 h0
  obtain ⟨a1, rfl, rfl, rfl, w1⟩ := open_int Tryd.underlying5 (hval 1 5 v1 rfl rfl) h1
  clear hA0 hval0 hsz0
  obtain ⟨k, h⟩ := Go.Proofs.YtppeidopijnnlaaDoor.C.Pure.OperandRight l0 a1 hg0 w1
  refine (Go.Proofs.YtppeidopijnnlaaDoor.C.sundiallaw08_OperandRight.calls k A0 c0 l0 a1 true W hC0 hc0 (Go.Proofs.YtppeidopijnnlaaDoor.C.laid_of (by first | exact .head _ | exact .tail _ (.head _) | exact .tail _ (.tail _ (.head _)) | exact .tail _ (.tail _ (.tail _ (.head _)))) hL) h).mono ?_
  rintro e W' ⟨rfl, bel⟩
  exact ⟨_, rfl, _, _, _, [], _, [], hW', trodAll_mk1 (shut_bool Tryd.underlying4 _), (trodAll_cons_mk (Below.trod laidOut (by kernel_rfl) (of_decide_eq_true (by kernel_rfl)) k0 bel lt0) (trodAll_cons_mk (shut_int Tryd.underlying5 w1) trodAll_mk0)), rfl, bel.frame _, fun h => by cases h⟩
theorem over : Rows.operandRightRow.holds Tryd.pinned (OpenSpec.ofChange Rows.operandRightSpec) :=
  OpenClaim.holds_of_wide 4 Tryd.f4 rfl rfl rfl rfl rfl rfl rfl ⟨rfl, rfl, rfl, rfl, rfl⟩ rfl rfl rfl rfl rfl (by kernel_rfl) Tryd.func4 (by kernel_rfl)
    (of_decide_eq_true (by kernel_rfl)) (by unfold Func.isWrapper; first | (rw [if_pos (by decide +kernel)]; kernel_rfl) | (rw [if_neg (by decide +kernel)]; exact ⟨rfl, rfl⟩))
    (fun os started H enc _ => lifted os started H enc)
theorem proved : Rows.OperandRightSaid := over
theorem card : Rows.OperandRightCardSaid :=
  Claim7.holds_tied_plain_at .later [] [.data, .data] true (true, "ce890f8c4758731232faa48a5b81967a9524d5a4cebb2f500abbf70cb7bb7bd2") false proved (fun _ h => by cases h) (by kernel_rfl) (fun _ h => by cases h) operandRight_row_tie rfl ⟨rfl, rfl⟩ (by kernel_rfl) rfl
    (fun f fn hf hfn => by
      obtain rfl : f = 4 := Option.some.inj ((show Tryd.prog.funcNamed Rows.operandRightRow.func = some 4 by kernel_rfl).symm.trans hf) |>.symm
      obtain rfl : fn = Tryd.f4 := (Option.some.inj (Tryd.func4.symm.trans hfn)).symm
      exact ⟨by kernel_rfl, fun j t ht => by
        rw [Tryd.params4] at ht
        have hm : t ∈ [24, 5] := by simpa using Array.mem_of_getElem? ht
        have hall : ([24, 5].all fun u => !Tryd.prog.wantsStandIn u) = true := by kernel_rfl
        exact (show Tryd.prog.wantsStandIn t = false by simpa using List.all_eq_true.1 hall t hm)⟩)
    (by kernel_rfl)
#print axioms card
end Go.Proofs.YtppeidopijnnlaaDoor.operandRight
namespace Go.Proofs.YtppeidopijnnlaaDoor
theorem operandRight_holds : Rows.OperandRightCardSaid := operandRight.card
end Go.Proofs.YtppeidopijnnlaaDoor
