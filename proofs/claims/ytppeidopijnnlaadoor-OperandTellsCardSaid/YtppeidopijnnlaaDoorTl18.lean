/- The law OperandTells, of what its walk computes. The law lTl answers true for every input that the row admits, and the input reads as it did. Conditions: those of the given row alone. (Printed by rowgen.py out of the walk and the plain law.) -/
import Derived.Test.YtppeidopijnnlaaDoorTl16
import Derived.Test.YtppeidopijnnlaaDoorTl17
import Derived.Test.YtppeidopijnnlaaDoorTie
import Derived.Test.YtppeidopijnnlaaDoorCards
import Derived.Lay
import Derived.LaidOnce
import Derived.SevenTiedAt
import Derived.Test.YtppeidopijnnlaaDoorRows
import Derived.Test.YtppeidopijnnlaaDoorTl10
import Derived.WalkKit
import Derived.ProofKit
import Derived.OpenShut
import Derived.ShutString
import Derived.ChangeOld
import Derived.Below
import Derived.SizedLaws
namespace Go.Proofs.YtppeidopijnnlaaDoor.C
open Go.RowKit Go.Proofs.YtppeidopijnnlaaDoorW.PrintWords Go.Proofs.YtppeidopijnnlaaDoorW.PrintLast Go.Proofs.YtppeidopijnnlaaDoorW.PrintMore Go.RF
open Go.Proofs.YtppeidopijnnlaaDoor.B
set_option linter.unusedVariables false
set_option linter.unusedSimpArgs false
theorem rightC (n : Nat) (k R base idx sc dp : Int) (rip : Bool) (im : Int) : operand_Right.f (n + 2) k R base idx sc dp rip im = some (B.rightF k R base idx sc dp rip im) := by
  rw [← B.right_f]
  unfold operand_Right.f
  simp only [operand_Right.j0, operand_scaled.f, operand_Reg.f]
theorem ints_go (l : List Int) (hl : l.length ≤ 1000) : ∀ (d i k : Nat), l.length - i = d → i ≤ l.length → d < k → l8_ints.l0 k l l i = some true := by
  intro d
  induction d with
  | zero =>
    intro i k hd hi hk
    obtain ⟨k, rfl⟩ : ∃ m, k = m + 1 := ⟨k - 1, by omega⟩
    rw [l8_ints.l0, if_neg (by omega)]
  | succ d ih =>
    intro i k hd hi hk
    obtain ⟨k, rfl⟩ : ∃ m, k = m + 1 := ⟨k - 1, by omega⟩
    have hw : wrap64 ((i : Int) + 1) = ((i + 1 : Nat) : Int) := by unfold wrap64; omega
    rw [l8_ints.l0, if_pos (by omega), if_pos (by omega), if_pos (by omega), if_pos rfl, hw]
    exact ih (i + 1) k (by omega) (by omega) (by omega)
theorem ints_f (l : List Int) (hl : l.length ≤ 1000) (k : Nat) (hk : l.length < k) : l8_ints.f k l l = some true := by
  unfold l8_ints.f
  rw [if_pos rfl]
  exact ints_go l hl l.length 0 k (by omega) (by omega) (by omega)
theorem uses_same (k R base idx sc dp : Int) (rip : Bool) (im : Int) : operand_Uses.f k R base idx sc dp rip im = some (B.regL k base idx 0) ∧ r8_Uses.f k R base idx sc dp rip im = some (B.regL k base idx 0) ∧ (B.regL k base idx 0).length ≤ 2 := by
  refine ⟨?_, ?_, ?_⟩
  · show B.G.Uses k R base idx sc dp rip im = _
    rw [B.G.Uses_eq]
    rfl
  · unfold r8_Uses.f B.regL B.regP
    by_cases h : k = 2
    · by_cases hb : base ≥ 0
      · by_cases hi : idx ≥ 0
        · simp [h, hb, hi]
        · simp [h, hb, hi]
      · by_cases hi : idx ≥ 0
        · simp [h, hb, hi]
        · simp [h, hb, hi]
    · simp [h]
  · show (B.regP k base ++ B.regP k idx).length ≤ 2
    unfold B.regP
    rw [List.length_append]
    split <;> split <;> simp
theorem Pure.OperandTells (a0 a1_0 a1_1 a1_2 a1_3 a1_4 a1_5 : Int) (a1_6 : Bool) (a1_7 : Int) (l2 : List Int) (a3 a4 : Int) (w0 : (Lit.int .i64 a0).wf = true) (hg : GoodOp a1_0 a1_1 a1_2 a1_3 a1_4 a1_5 a1_7)
    (hl2 : ∀ y ∈ l2, (Lit.int .u8 y).wf = true) (w3 : (Lit.int .u8 a3).wf = true) (w4 : (Lit.int .i64 a4).wf = true) : ∃ k, lTl.f k a0 a1_0 a1_1 a1_2 a1_3 a1_4 a1_5 a1_6 a1_7 l2 a3 a4 = some true := by
  have hl : ∀ y ∈ l2, 0 ≤ y ∧ y < 256 := fun y hy => wf_u8 (hl2 y hy)
  have ha := wf_u8 w3
  refine ⟨30, ?_⟩
  unfold lTl.f
  by_cases hn : (l2.length : Int) > 40
  · rw [if_pos hn, wakes_f]; rfl
  rw [if_neg hn, take_f l2 a3 hl ha.1 ha.2, refTake 22 l2 hl a3 ha.1 ha.2, put_f, refPut 10]
  obtain ⟨⟨t1, t2, t3, t4, t5, t6, t7, t8, t9, t10, t11⟩, hT⟩ : ∃ t, B.takeF l2 a3 = t := ⟨_, rfl⟩
  obtain ⟨⟨b, rx, e⟩, hP⟩ : ∃ t, B.putF a0 a1_0 a1_1 a1_2 a1_3 a1_4 a1_5 a1_6 a1_7 = t := ⟨_, rfl⟩
  rw [hT, hP]
  simp only [Option.bind_some]
  obtain ⟨u1, u2, u3⟩ := uses_same a1_0 a1_1 a1_2 a1_3 a1_4 a1_5 a1_6 a1_7
  rw [if_pos trivial, if_neg (by simp), if_pos trivial, if_pos trivial]
  have hs : l8_same.f b b = some true := by unfold l8_same.f; simp
  rw [hs]
  simp only [Option.bind_some, if_true]
  have hee : (e != e) = false := by simp
  rw [hee, lTl.j0, if_neg (by decide), rightC 27, refRight 27]
  simp only [Option.bind_some]
  rw [if_pos (by simp), u1, u2]
  simp only [Option.bind_some]
  rw [ints_f _ (by omega) 29 (by omega)]
  simp only [Option.bind_some, if_true, operand_Reg.f, r8_Reg.f, operand_Mem.f, r8_Mem.f]
  rw [if_pos (by simp), if_pos (by simp), wakes_f]
  rfl
end Go.Proofs.YtppeidopijnnlaaDoor.C
namespace Go.Proofs.YtppeidopijnnlaaDoor.operandTells
open Go.ChangeShapes Go.WideShapes Go.ChangeAt Go.RowKit
open Go.Proofs.YtppeidopijnnlaaDoorW.PrintWords
set_option linter.unusedVariables false
theorem own : ownKnob Tryd.prog.godebug = none := by kernel_rfl
theorem laidOut : laidOutB Tryd.prog = true := by kernel_rfl
set_option maxRecDepth 100000 in
theorem lifted (os : Os) (started : os.Started) (H : Type) (enc : TypeId × Value → H) :
    ReturnsInHanded {} Tryd.checked os 6 .any (fun w args => (Rows.operandTellsSpec.pre enc Tryd.prog Tryd.f6 [] false w args ∧ laidMetH Tryd.prog Rows.operandTellsRow.laid w) ∧ sizedMet enc Tryd.prog Tryd.f6 (OpenSpec.ofChange Rows.operandTellsSpec) false w args) (Rows.operandTellsSpec.post enc Tryd.prog Tryd.f6 false true false false) := by
  refine returnsInHanded_of_change_and (C := Tryd.checked) (X := fun w _ => laidMetH Tryd.prog Rows.operandTellsRow.laid w) (fun _ _ _ hh h => h.of_heap hh) own started (by kernel_rfl) Tryd.func6
    (ChangeSpec.witness_shaped (enc := enc) (C := Tryd.checked) (os := os) (X := fun w _ => laidMetH Tryd.prog Rows.operandTellsRow.laid w) false (World.laidAll Tryd.prog os Rows.operandTellsRow.laid) #[.int .i64 0, .agg #[.int .u8 0, .int .i64 0, .int .i64 0, .int .i64 0, .int .i64 0, .int .i64 0, .bool false, .int .i64 0], .slice none 0 0, .int .u8 0, .int .i64 0] 8 (World.laidAll_os _ _ _)
      (World.shaped_of_ZipB (by kernel_rfl) (by kernel_rfl)) (by kernel_rfl) (by kernel_rfl) (by kernel_rfl)
      (by rw [MakeChecks.laidMetH_plain _ _ _ (by kernel_rfl)]; exact laidMet_laidAll _ (by kernel_rfl) (by kernel_rfl))) ?_
  intro W base args ds gs before hval0 hW hcnd hsz0 hL _
  rw [MakeChecks.laidMetH_plain _ _ _ (by kernel_rfl)] at hL
  have hval : ∀ (j : Nat) t v, Tryd.f6.params[j]? = some t → args[j]? = some v → Value.okWide Tryd.prog W .any base t v := hval0
  have hW' := hW
  obtain ⟨p, q, hA0, hV, rfl, hfz, hnd⟩ := hW
  have hA : DataW.TrodAll enc Tryd.prog W 0 (fun _ => true) true Tryd.f6.params.toList args.toList ds p := hA0
  rw [Tryd.params6] at hA hval
  obtain ⟨v0, vs0, d0, ds0, p0, q0, hargs, rfl, rfl, h0, r0⟩ := trodAll_cons hA
  obtain ⟨v1, vs1, d1, ds1, p1, q1, rfl, rfl, rfl, h1, r1⟩ := trodAll_cons r0
  obtain ⟨v2, vs2, d2, ds2, p2, q2, rfl, rfl, rfl, h2, r2⟩ := trodAll_cons r1
  obtain ⟨v3, vs3, d3, ds3, p3, q3, rfl, rfl, rfl, h3, r3⟩ := trodAll_cons r2
  obtain ⟨v4, vs4, d4, ds4, p4, q4, rfl, rfl, rfl, h4, r4⟩ := trodAll_cons r3
  obtain ⟨rfl, rfl, rfl⟩ := trodAll_nil r4
  obtain rfl : args = #[v0, v1, v2, v3, v4] := by cases args; simp_all
  obtain ⟨rfl, rfl⟩ := trodVars_none hV
  obtain ⟨a0, rfl, rfl, rfl, w0⟩ := open_int Tryd.underlying3 (hval 0 3 v0 rfl rfl) h0
  have e1 := okWide_struct Tryd.underlying23 (hval 1 23 v1 rfl rfl)
  have k1 := h1
  have lt1 : ∀ x ∈ p1, x.block < W.heap.size := by obtain ⟨m, hm⟩ := k1; exact DataW.trod_lt m _ _ _ hm
  obtain ⟨a1_0, a1_1, a1_2, a1_3, a1_4, a1_5, a1_6, a1_7, rfl, hg1⟩ := Go.Proofs.YtppeidopijnnlaaDoor.C.st_operand e1 h1
  have e2 := okWide_slice Tryd.underlying24 (hval 2 24 v2 rfl rfl)
  have k2 := h2
  have lt2 : ∀ x ∈ p2, x.block < W.heap.size := by obtain ⟨m, hm⟩ := k2; exact DataW.trod_lt m _ _ _ hm
  obtain ⟨A2, c2, l2, rfl, hc2, hC2, hg2⟩ := Go.Proofs.YtppeidopijnnlaaDoor.C.open_bytes e2 h2
  obtain ⟨a3, rfl, rfl, rfl, w3⟩ := open_int Tryd.underlying5 (hval 3 5 v3 rfl rfl) h3
  obtain ⟨a4, rfl, rfl, rfl, w4⟩ := open_int Tryd.underlying2 (hval 4 2 v4 rfl rfl) h4
  clear hA0 hval0 hsz0
  obtain ⟨k, h⟩ := Go.Proofs.YtppeidopijnnlaaDoor.C.Pure.OperandTells a0 a1_0 a1_1 a1_2 a1_3 a1_4 a1_5 a1_6 a1_7 l2 a3 a4 w0 hg1 hg2 w3 w4
  refine (Go.Proofs.YtppeidopijnnlaaDoor.C.lTl.calls k a0 a1_0 a1_1 a1_2 a1_3 a1_4 a1_5 a1_6 a1_7 A2 c2 l2 a3 a4 true W hC2 hc2 (Go.Proofs.YtppeidopijnnlaaDoor.C.laid_of (by first | exact .head _ | exact .tail _ (.head _) | exact .tail _ (.tail _ (.head _)) | exact .tail _ (.tail _ (.tail _ (.head _)))) hL) h).mono ?_
  rintro e W' ⟨rfl, bel⟩
  exact ⟨_, rfl, _, _, _, [], _, [], hW', trodAll_mk1 (shut_bool Tryd.underlying4 _), (trodAll_cons_mk (shut_int Tryd.underlying3 w0) (trodAll_cons_mk (Below.trod laidOut (by kernel_rfl) (of_decide_eq_true (by kernel_rfl)) k1 bel lt1) (trodAll_cons_mk (Below.trod laidOut (by kernel_rfl) (of_decide_eq_true (by kernel_rfl)) k2 bel lt2) (trodAll_cons_mk (shut_int Tryd.underlying5 w3) (trodAll_cons_mk (shut_int Tryd.underlying2 w4) trodAll_mk0))))), rfl, bel.frame _, fun h => by cases h⟩
theorem over : Rows.operandTellsRow.holds Tryd.pinned (OpenSpec.ofChange Rows.operandTellsSpec) :=
  OpenClaim.holds_of_wide 6 Tryd.f6 rfl rfl rfl rfl rfl rfl rfl ⟨rfl, rfl, rfl, rfl, rfl⟩ rfl rfl rfl rfl rfl (by kernel_rfl) Tryd.func6 (by kernel_rfl)
    (of_decide_eq_true (by kernel_rfl)) (by unfold Func.isWrapper; first | (rw [if_pos (by decide +kernel)]; kernel_rfl) | (rw [if_neg (by decide +kernel)]; exact ⟨rfl, rfl⟩))
    (fun os started H enc _ => lifted os started H enc)
theorem proved : Rows.OperandTellsSaid := over
theorem card : Rows.OperandTellsCardSaid :=
  Claim7.holds_tied_plain_at .later [] [.data, .data] true (true, "ce890f8c4758731232faa48a5b81967a9524d5a4cebb2f500abbf70cb7bb7bd2") false proved (fun _ h => by cases h) (by kernel_rfl) (fun _ h => by cases h) operandTells_row_tie rfl ⟨rfl, rfl⟩ (by kernel_rfl) rfl
    (fun f fn hf hfn => by
      obtain rfl : f = 6 := Option.some.inj ((show Tryd.prog.funcNamed Rows.operandTellsRow.func = some 6 by kernel_rfl).symm.trans hf) |>.symm
      obtain rfl : fn = Tryd.f6 := (Option.some.inj (Tryd.func6.symm.trans hfn)).symm
      exact ⟨by kernel_rfl, fun j t ht => by
        rw [Tryd.params6] at ht
        have hm : t ∈ [3, 23, 24, 5, 2] := by simpa using Array.mem_of_getElem? ht
        have hall : ([3, 23, 24, 5, 2].all fun u => !Tryd.prog.wantsStandIn u) = true := by kernel_rfl
        exact (show Tryd.prog.wantsStandIn t = false by simpa using List.all_eq_true.1 hall t hm)⟩)
    (by kernel_rfl)
#print axioms card
end Go.Proofs.YtppeidopijnnlaaDoor.operandTells
namespace Go.Proofs.YtppeidopijnnlaaDoor
theorem operandTells_holds : Rows.OperandTellsCardSaid := operandTells.card
end Go.Proofs.YtppeidopijnnlaaDoor
