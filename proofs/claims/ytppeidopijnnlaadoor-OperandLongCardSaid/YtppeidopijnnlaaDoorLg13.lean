/- The law OperandLong, of what its walk computes. The law sundiallaw08_OperandLong answers true for every input that the row admits, and the input reads as it did. Conditions: those of the given row alone. (Printed by rowgen.py out of the walk and the plain law.) -/
import Derived.Test.YtppeidopijnnlaaDoorLg11
import Derived.Test.YtppeidopijnnlaaDoorLg8
import Derived.Test.YtppeidopijnnlaaDoorLg12
import Derived.Test.YtppeidopijnnlaaDoorTie
import Derived.Test.YtppeidopijnnlaaDoorCards
import Derived.Lay
import Derived.LaidOnce
import Derived.SevenTiedAt
import Derived.Test.YtppeidopijnnlaaDoorRows
import Derived.WalkKit
import Derived.ProofKit
import Derived.OpenShut
import Derived.ShutString
import Derived.ChangeOld
import Derived.Below
import Derived.SizedLaws
namespace Go.Proofs.YtppeidopijnnlaaDoor.C
open Go.RowKit Go.Proofs.YtppeidopijnnlaaDoorW.PrintWords Go.Proofs.YtppeidopijnnlaaDoorW.PrintLast Go.Proofs.YtppeidopijnnlaaDoorW.PrintMore Go.RF
set_option linter.unusedVariables false
set_option linter.unusedSimpArgs false
theorem and7_cases : ∀ r : Fin 16, Go.bits .and .i64 (r.val : Int) 7 = (r.val : Int) % 8 := by decide +kernel
theorem and7i (r : Int) (h0 : 0 ≤ r) (h1 : r < 16) : Go.bits .and .i64 r 7 = r % 8 := B.fin_of (n := 16) (P := fun r => Go.bits .and .i64 r 7 = r % 8) and7_cases r h0 h1
section
variable (b : List Int) (w9 k R base idx sc dp : Int) (rip : Bool) (im : Int)
theorem j3_ok (n : Nat) (h8 : Int) (c : Bool) (hc : 0 ≤ h8 ∧ h8 ≤ 2) (hl : (b.length : Int) = h8 + (if c = true then 4 else if dp = 0 then (if w9 = 5 then 1 else 0) else 1)) :
    sundiallaw08_OperandLong.j3 (n + 1) b 0 h8 w9 c k R base idx sc dp rip im = some true := by
  have e4 : wrap64 (h8 + 4) = h8 + 4 := by unfold wrap64; omega
  have e1 : wrap64 (h8 + 1) = h8 + 1 := by unfold wrap64; omega
  rw [sundiallaw08_OperandLong.j3, e4, e1, wakes_f]
  cases c
  · rw [if_neg (by decide)]
    rw [if_neg (by decide)] at hl
    by_cases hd : dp = 0
    · rw [if_pos hd]
      rw [if_pos hd] at hl
      by_cases h5 : w9 = 5
      · rw [if_pos h5] at hl
        rw [if_pos h5, if_pos rfl, if_pos hl]
        rfl
      · rw [if_neg h5] at hl
        rw [if_neg h5, if_pos rfl, if_pos (by omega)]
        rfl
    · rw [if_neg hd] at hl
      rw [if_neg hd, if_pos rfl, if_pos hl]
      rfl
  · rw [if_pos rfl] at hl
    rw [if_pos rfl, if_pos rfl, if_pos hl]
    rfl
theorem j2_ok (n : Nat) (h8 : Int) (hc : 0 ≤ h8 ∧ h8 ≤ 2)
    (hl : (b.length : Int) = h8 + (if rip = true ∨ base < 0 ∨ dp < -128 ∨ dp > 127 then 4 else if dp = 0 then (if w9 = 5 then 1 else 0) else 1)) :
    sundiallaw08_OperandLong.j2 (n + 2) b 0 h8 w9 k R base idx sc dp rip im = some true := by
  rw [sundiallaw08_OperandLong.j2]
  by_cases h1 : rip = true
  · rw [if_pos h1]
    rw [if_pos (.inl h1)] at hl
    exact j3_ok b w9 k R base idx sc dp rip im n h8 true hc hl
  rw [if_neg h1]
  by_cases h2 : base < 0
  · rw [if_pos h2]
    rw [if_pos (.inr (.inl h2))] at hl
    exact j3_ok b w9 k R base idx sc dp rip im n h8 true hc hl
  rw [if_neg h2]
  by_cases h3 : dp < -128
  · rw [if_pos h3]
    rw [if_pos (.inr (.inr (.inl h3)))] at hl
    exact j3_ok b w9 k R base idx sc dp rip im n h8 true hc hl
  rw [if_neg h3]
  by_cases h4 : dp > 127
  · rw [if_pos (.inr (.inr (.inr h4)))] at hl
    rw [decide_eq_true h4]
    exact j3_ok b w9 k R base idx sc dp rip im n h8 true hc hl
  · rw [if_neg (by rintro (h | h | h | h) <;> contradiction)] at hl
    rw [decide_eq_false h4]
    exact j3_ok b w9 k R base idx sc dp rip im n h8 false hc hl
theorem j1_ok (n : Nat) (c : Bool) (hl : (b.length : Int) = (if c = true then 2 else 1) + (if rip = true ∨ base < 0 ∨ dp < -128 ∨ dp > 127 then 4 else if dp = 0 then (if w9 = 5 then 1 else 0) else 1)) :
    sundiallaw08_OperandLong.j1 (n + 3) b 0 1 w9 c k R base idx sc dp rip im = some true := by
  rw [sundiallaw08_OperandLong.j1]
  cases c
  · rw [if_neg (by decide)]
    exact j2_ok b w9 k R base idx sc dp rip im n 1 (by decide) hl
  · rw [if_pos rfl, show wrap64 (1 + 1) = 2 by decide +kernel]
    exact j2_ok b w9 k R base idx sc dp rip im n 2 (by decide) hl
end
theorem wid_form (base dp : Int) (h0 : 0 ≤ base) (h1 : base < 16) : ((B.formF base dp).2.toNat : Int) = (if dp < -128 ∨ dp > 127 then 4 else if dp = 0 then (if base % 8 = 5 then 1 else 0) else 1) := by
  unfold B.formF
  rw [if_neg (by omega), (B.low_high base h0 h1).1]
  have h8 := B.fits8 dp
  by_cases hd : dp = 0 ∧ base % 8 ≠ 5
  · rw [if_pos hd, if_neg (by omega), if_pos hd.1, if_neg hd.2]
    rfl
  · rw [if_neg hd]
    by_cases hw : wrap64 (IntKind.i8.wrap dp) = dp
    · have := h8.1 hw
      rw [if_pos hw, if_neg (by omega)]
      by_cases hz : dp = 0
      · rw [if_pos hz, if_pos (by omega)]; rfl
      · rw [if_neg hz]; rfl
    · have : ¬ (-128 ≤ dp ∧ dp < 128) := fun h => hw (h8.2 h)
      rw [if_neg hw, if_pos (by omega)]
      rfl
theorem Pure.OperandLong (a0 a1_0 a1_1 a1_2 a1_3 a1_4 a1_5 : Int) (a1_6 : Bool) (a1_7 : Int) (w0 : (Lit.int .i64 a0).wf = true) (hg : GoodOp a1_0 a1_1 a1_2 a1_3 a1_4 a1_5 a1_7) : ∃ k, sundiallaw08_OperandLong.f k a0 a1_0 a1_1 a1_2 a1_3 a1_4 a1_5 a1_6 a1_7 = some true := by
  refine ⟨4, ?_⟩
  unfold sundiallaw08_OperandLong.f
  have jt : sundiallaw08_OperandLong.j0 4 a0 true a1_0 a1_1 a1_2 a1_3 a1_4 a1_5 a1_6 a1_7 = some true := by
    rw [sundiallaw08_OperandLong.j0, if_pos rfl, wakes_f]; rfl
  by_cases h0 : a0 < 0
  · rw [if_pos h0]; exact jt
  rw [if_neg h0]
  by_cases h1 : a0 > 15
  · rw [if_pos h1]; exact jt
  rw [if_neg h1, refRight 2]
  simp only [Option.bind_some]
  cases hR : B.rightF a1_0 a1_1 a1_2 a1_3 a1_4 a1_5 a1_6 a1_7
  · exact jt
  have hP := (B.rightF_iff a1_0 a1_1 a1_2 a1_3 a1_4 a1_5 a1_6 a1_7).1 hR
  obtain ⟨b, rex, hput, hlen, -⟩ := B.put_back a0 a1_0 a1_1 a1_2 a1_3 a1_4 a1_5 a1_6 a1_7 ⟨by omega, by omega⟩ hP
  show sundiallaw08_OperandLong.j0 4 a0 false a1_0 a1_1 a1_2 a1_3 a1_4 a1_5 a1_6 a1_7 = some true
  rw [sundiallaw08_OperandLong.j0, if_neg (by decide), put_f, hput]
  simp only [Option.bind_some]
  rcases hP with ⟨rfl, hR0, hR1, rfl, rfl, rfl, rfl, rfl, rfl⟩ | ⟨rfl, rfl, rfl, hd, ⟨rfl, rfl, rfl, rfl⟩ | ⟨rfl, p1, p2, p3, p4, p5, p6⟩⟩
  · rw [if_neg (by decide), if_pos trivial, wakes_f]
    have : b.length = 1 := hlen
    rw [if_pos (by omega)]
    rfl
  · rw [if_pos rfl, if_pos rfl]
    have : b.length = 5 := hlen
    refine j1_ok b _ 2 0 (-1) (-1) 1 a1_5 true 0 0 false ?_
    rw [if_neg (by decide), if_pos (.inl rfl)]
    omega
  · rw [if_pos rfl, if_neg (by decide)]
    have hw := wid_form a1_2 a1_5
    have hh : (b.length : Int) = (if 0 ≤ a1_3 ∨ a1_2 < 0 ∨ a1_2 % 8 = 4 then 2 else 1) + ((B.formF a1_2 a1_5).2.toNat : Int) := by
      rw [hlen]
      show (((if 0 ≤ a1_3 ∨ a1_2 < 0 ∨ a1_2 % 8 = 4 then 2 else 1) + (B.formF a1_2 a1_5).2.toNat : Nat) : Int) = _
      split <;> omega
    by_cases hb : a1_2 < 0
    · have h4 : ((B.formF a1_2 a1_5).2.toNat : Int) = 4 := by unfold B.formF; rw [if_pos hb]; rfl
      rw [h4, if_pos (.inr (.inl hb))] at hh
      have : ∀ w9, sundiallaw08_OperandLong.j1 3 b 0 1 w9 true 2 0 a1_2 a1_3 a1_4 a1_5 false 0 = some true := by
        intro w9
        refine j1_ok b w9 2 0 a1_2 a1_3 a1_4 a1_5 false 0 0 true ?_
        rw [if_pos rfl, if_pos (.inr (.inl hb))]
        exact hh
      by_cases hi : a1_3 ≥ 0
      · rw [if_pos hi]; exact this _
      · rw [if_neg hi, if_pos hb]; exact this _
    · have hb0 : 0 ≤ a1_2 := by omega
      have hww := hw hb0 p2
      rw [hww] at hh
      have h7 := and7i a1_2 hb0 p2
      rw [h7]
      have hif : (if (false = true ∨ a1_2 < 0 ∨ a1_5 < -128 ∨ a1_5 > 127) then (4 : Int) else if a1_5 = 0 then (if a1_2 % 8 = 5 then 1 else 0) else 1) = (if a1_5 < -128 ∨ a1_5 > 127 then 4 else if a1_5 = 0 then (if a1_2 % 8 = 5 then 1 else 0) else 1) := by
        simp only [Bool.false_eq_true, false_or, hb]
      by_cases hi : a1_3 ≥ 0
      · rw [if_pos hi]
        refine j1_ok b _ 2 0 a1_2 a1_3 a1_4 a1_5 false 0 0 true ?_
        rw [hif, if_pos rfl]
        rw [if_pos (.inl hi)] at hh
        exact hh
      · rw [if_neg hi, if_neg hb]
        refine j1_ok b _ 2 0 a1_2 a1_3 a1_4 a1_5 false 0 0 _ ?_
        rw [hif, hh]
        by_cases h4 : a1_2 % 8 = 4
        · rw [if_pos (.inr (.inr h4)), if_pos (show (a1_2 % 8 == 4) = true by simp [h4])]
        · rw [if_neg (show ¬ (0 ≤ a1_3 ∨ a1_2 < 0 ∨ a1_2 % 8 = 4) by omega), if_neg (show ¬ (a1_2 % 8 == 4) = true by simp [h4])]
end Go.Proofs.YtppeidopijnnlaaDoor.C
namespace Go.Proofs.YtppeidopijnnlaaDoor.operandLong
open Go.ChangeShapes Go.WideShapes Go.ChangeAt Go.RowKit
open Go.Proofs.YtppeidopijnnlaaDoorW.PrintWords
set_option linter.unusedVariables false
theorem own : ownKnob Tryd.prog.godebug = none := by kernel_rfl
theorem laidOut : laidOutB Tryd.prog = true := by kernel_rfl
set_option maxRecDepth 100000 in
theorem lifted (os : Os) (started : os.Started) (H : Type) (enc : TypeId × Value → H) :
    ReturnsInHanded {} Tryd.checked os 5 .any (fun w args => (Rows.operandLongSpec.pre enc Tryd.prog Tryd.f5 [] false w args ∧ laidMetH Tryd.prog Rows.operandLongRow.laid w) ∧ sizedMet enc Tryd.prog Tryd.f5 (OpenSpec.ofChange Rows.operandLongSpec) false w args) (Rows.operandLongSpec.post enc Tryd.prog Tryd.f5 false true false false) := by
  refine returnsInHanded_of_change_and (C := Tryd.checked) (X := fun w _ => laidMetH Tryd.prog Rows.operandLongRow.laid w) (fun _ _ _ hh h => h.of_heap hh) own started (by kernel_rfl) Tryd.func5
    (ChangeSpec.witness_shaped (enc := enc) (C := Tryd.checked) (os := os) (X := fun w _ => laidMetH Tryd.prog Rows.operandLongRow.laid w) false (World.laidAll Tryd.prog os Rows.operandLongRow.laid) #[.int .i64 0, .agg #[.int .u8 0, .int .i64 0, .int .i64 0, .int .i64 0, .int .i64 0, .int .i64 0, .bool false, .int .i64 0]] 8 (World.laidAll_os _ _ _)
      (World.shaped_of_ZipB (by kernel_rfl) (by kernel_rfl)) (by kernel_rfl) (by kernel_rfl) (by kernel_rfl)
      (by rw [MakeChecks.laidMetH_plain _ _ _ (by kernel_rfl)]; exact laidMet_laidAll _ (by kernel_rfl) (by kernel_rfl))) ?_
  intro W base args ds gs before hval0 hW hcnd hsz0 hL _
  rw [MakeChecks.laidMetH_plain _ _ _ (by kernel_rfl)] at hL
  have hval : ∀ (j : Nat) t v, Tryd.f5.params[j]? = some t → args[j]? = some v → Value.okWide Tryd.prog W .any base t v := hval0
  have hW' := hW
  obtain ⟨p, q, hA0, hV, rfl, hfz, hnd⟩ := hW
  have hA : DataW.TrodAll enc Tryd.prog W 0 (fun _ => true) true Tryd.f5.params.toList args.toList ds p := hA0
  rw [Tryd.params5] at hA hval
  obtain ⟨v0, vs0, d0, ds0, p0, q0, hargs, rfl, rfl, h0, r0⟩ := trodAll_cons hA
  obtain ⟨v1, vs1, d1, ds1, p1, q1, rfl, rfl, rfl, h1, r1⟩ := trodAll_cons r0
  obtain ⟨rfl, rfl, rfl⟩ := trodAll_nil r1
  obtain rfl : args = #[v0, v1] := by cases args; simp_all
  obtain ⟨rfl, rfl⟩ := trodVars_none hV
  obtain ⟨a0, rfl, rfl, rfl, w0⟩ := open_int Tryd.underlying3 (hval 0 3 v0 rfl rfl) h0
  have e1 := okWide_struct Tryd.underlying23 (hval 1 23 v1 rfl rfl)
  have k1 := h1
  have lt1 : ∀ x ∈ p1, x.block < W.heap.size := by obtain ⟨m, hm⟩ := k1; exact DataW.trod_lt m _ _ _ hm
  obtain ⟨a1_0, a1_1, a1_2, a1_3, a1_4, a1_5, a1_6, a1_7, rfl, hg1⟩ := Go.Proofs.YtppeidopijnnlaaDoor.C.st_operand e1 h1
  clear hA0 hval0 hsz0
  obtain ⟨k, h⟩ := Go.Proofs.YtppeidopijnnlaaDoor.C.Pure.OperandLong a0 a1_0 a1_1 a1_2 a1_3 a1_4 a1_5 a1_6 a1_7 w0 hg1
  refine (Go.Proofs.YtppeidopijnnlaaDoor.C.sundiallaw08_OperandLong.calls k a0 a1_0 a1_1 a1_2 a1_3 a1_4 a1_5 a1_6 a1_7 true W (Go.Proofs.YtppeidopijnnlaaDoor.C.laid_of (by first | exact .head _ | exact .tail _ (.head _) | exact .tail _ (.tail _ (.head _)) | exact .tail _ (.tail _ (.tail _ (.head _)))) hL) h).mono ?_
  rintro e W' ⟨rfl, bel⟩
  exact ⟨_, rfl, _, _, _, [], _, [], hW', trodAll_mk1 (shut_bool Tryd.underlying4 _), (trodAll_cons_mk (shut_int Tryd.underlying3 w0) (trodAll_cons_mk (Below.trod laidOut (by kernel_rfl) (of_decide_eq_true (by kernel_rfl)) k1 bel lt1) trodAll_mk0)), rfl, bel.frame _, fun h => by cases h⟩
theorem over : Rows.operandLongRow.holds Tryd.pinned (OpenSpec.ofChange Rows.operandLongSpec) :=
  OpenClaim.holds_of_wide 5 Tryd.f5 rfl rfl rfl rfl rfl rfl rfl ⟨rfl, rfl, rfl, rfl, rfl⟩ rfl rfl rfl rfl rfl (by kernel_rfl) Tryd.func5 (by kernel_rfl)
    (of_decide_eq_true (by kernel_rfl)) (by unfold Func.isWrapper; first | (rw [if_pos (by decide +kernel)]; kernel_rfl) | (rw [if_neg (by decide +kernel)]; exact ⟨rfl, rfl⟩))
    (fun os started H enc _ => lifted os started H enc)
theorem proved : Rows.OperandLongSaid := over
theorem card : Rows.OperandLongCardSaid :=
  Claim7.holds_tied_plain_at .later [] [.data, .data] true (true, "ce890f8c4758731232faa48a5b81967a9524d5a4cebb2f500abbf70cb7bb7bd2") false proved (fun _ h => by cases h) (by kernel_rfl) (fun _ h => by cases h) operandLong_row_tie rfl ⟨rfl, rfl⟩ (by kernel_rfl) rfl
    (fun f fn hf hfn => by
      obtain rfl : f = 5 := Option.some.inj ((show Tryd.prog.funcNamed Rows.operandLongRow.func = some 5 by kernel_rfl).symm.trans hf) |>.symm
      obtain rfl : fn = Tryd.f5 := (Option.some.inj (Tryd.func5.symm.trans hfn)).symm
      exact ⟨by kernel_rfl, fun j t ht => by
        rw [Tryd.params5] at ht
        have hm : t ∈ [3, 23] := by simpa using Array.mem_of_getElem? ht
        have hall : ([3, 23].all fun u => !Tryd.prog.wantsStandIn u) = true := by kernel_rfl
        exact (show Tryd.prog.wantsStandIn t = false by simpa using List.all_eq_true.1 hall t hm)⟩)
    (by kernel_rfl)
#print axioms card
end Go.Proofs.YtppeidopijnnlaaDoor.operandLong
namespace Go.Proofs.YtppeidopijnnlaaDoor
/-- The row, under a short name, for the claim. -/
theorem operandLong_holds : Rows.OperandLongCardSaid := operandLong.card
end Go.Proofs.YtppeidopijnnlaaDoor
