/- HeaderTells' walk in the row's form. The law sundiallaw03_HeaderTells answers true for every input that the row admits, and the input reads as it did. Conditions: those of the given row alone. (Printed by rowgen.py out of the walk and the plain law.) -/
import Derived.Test.YtopldeeojehklaaDoorTq16
import Derived.Test.YtopldeeojehklaaDoorTq18
import Derived.Test.YtopldeeojehklaaDoorTq20
import Derived.Test.YtopldeeojehklaaDoorTie
import Derived.Test.YtopldeeojehklaaDoorCards
import Derived.Lay
import Derived.LaidOnce
import Derived.SevenTiedAt
import Derived.Test.YtopldeeojehklaaDoorRows
import Derived.WalkKit
import Derived.ProofKit
import Derived.OpenShut
import Derived.ShutString
import Derived.ChangeOld
import Derived.Below
import Derived.SizedLaws
namespace Go.Proofs.YtopldeeojehklaaDoor.R
open Go.RowKit Go.Proofs.YtopldeeojehklaaDoorW.PrintWords Go.Proofs.YtopldeeojehklaaDoorW.PrintLast Go.Proofs.YtopldeeojehklaaDoorW.PrintMore Go.Proofs.YtopldeeojehklaaDoor.B Go.RF
set_option linter.unusedVariables false
theorem Pure.HeaderTells {w : World} (l : List Int) (cs : Array Value) (a0 a1 a2 a3 a4 a5 a6 b0 b1 b2 b3 b4 : Int) (hl : ∀ y ∈ l, (Lit.int .u8 y).wf = true) (hg : HdrIn w cs) (_ : GoodSeg ⟨a0, a1, a2, a3, a4, a5, a6⟩) (_ : GoodSec ⟨b0, b1, b2, b3, b4⟩) : ∃ k : Nat, HdrIn w cs ∧ BB l := ⟨0, hg, bb_wf hl⟩
theorem sundiallaw03_HeaderTells.calls (k : Nat) (A1 : Option Addr) (c1 : Nat) (l1 : List Int) (cs : Array Value) (s0 s1 s2 s3 s4 s5 s6 b0 b1 b2 b3 b4 : Int) (r : Bool) (w : World) (hC : Kd.C (Kd.int .u8) w A1 l1.length l1) (hc : l1.length ≤ c1) (hT : Tab w) (h : HdrIn w cs ∧ BB l1) :
    Calls Tryd.prog 3 #[.slice A1 l1.length c1, .agg cs, .agg #[.int .u32 s0, .int .u32 s1, .int .u64 s2, .int .u64 s3, .int .u64 s4, .int .u64 s5, .int .u64 s6], .agg #[.int .u32 b0, .int .u64 b1, .int .u64 b2, .int .u32 b3, .int .u64 b4]] w fun e w' => e = .returned (.bool true) ∧ Below w.heap.size w w' := by
  obtain ⟨⟨a0, a1, a2, A3, c3, S, A4, c4, C, rfl, C3, l3, C4, l4, r0, r1, r2, G3, G4⟩, hb⟩ := h
  exact Go.Proofs.YtopldeeojehklaaDoor.B.sundiallaw03_HeaderTells.calls 200 A1 c1 l1 a0 a1 a2 A3 c3 S A4 c4 C s0 s1 s2 s3 s4 s5 s6 b0 b1 b2 b3 b4 w hC hc C3 l3 C4 l4 hT (Go.Proofs.YtopldeeojehklaaDoor.B.Pure.HeaderTells l1 a0 a1 a2 S C s0 s1 s2 s3 s4 s5 s6 b0 b1 b2 b3 b4 hb)
end Go.Proofs.YtopldeeojehklaaDoor.R
namespace Go.Proofs.YtopldeeojehklaaDoor.headerTells
open Go.ChangeShapes Go.WideShapes Go.ChangeAt Go.RowKit
open Go.Proofs.YtopldeeojehklaaDoorW.PrintWords
set_option linter.unusedVariables false
theorem own : ownKnob Tryd.prog.godebug = none := by kernel_rfl
theorem laidOut : laidOutB Tryd.prog = true := by kernel_rfl
set_option maxRecDepth 100000 in
theorem lifted (os : Os) (started : os.Started) (H : Type) (enc : TypeId × Value → H) :
    ReturnsInHanded {} Tryd.checked os 3 .any (fun w args => (Rows.headerTellsSpec.pre enc Tryd.prog Tryd.f3 [] false w args ∧ laidMetH Tryd.prog Rows.headerTellsRow.laid w) ∧ sizedMet enc Tryd.prog Tryd.f3 (OpenSpec.ofChange Rows.headerTellsSpec) false w args) (Rows.headerTellsSpec.post enc Tryd.prog Tryd.f3 false true false false) := by
  refine returnsInHanded_of_change_and (C := Tryd.checked) (X := fun w _ => laidMetH Tryd.prog Rows.headerTellsRow.laid w) (fun _ _ _ hh h => h.of_heap hh) own started (by kernel_rfl) Tryd.func3
    (ChangeSpec.witness_shaped (enc := enc) (C := Tryd.checked) (os := os) (X := fun w _ => laidMetH Tryd.prog Rows.headerTellsRow.laid w) false (World.laidAll Tryd.prog os Rows.headerTellsRow.laid) #[.slice none 0 0, .agg #[.int .u64 0, .int .u64 0, .int .u64 0, .slice none 0 0, .slice none 0 0], .agg #[.int .u32 0, .int .u32 0, .int .u64 0, .int .u64 0, .int .u64 0, .int .u64 0, .int .u64 0], .agg #[.int .u32 0, .int .u64 0, .int .u64 0, .int .u32 0, .int .u64 0]] 8 (World.laidAll_os _ _ _)
      (World.shaped_of_ZipB (by kernel_rfl) (by kernel_rfl)) (by kernel_rfl) (by kernel_rfl) (by kernel_rfl)
      (by rw [MakeChecks.laidMetH_plain _ _ _ (by kernel_rfl)]; exact laidMet_laidAll _ (by kernel_rfl) (by kernel_rfl))) ?_
  intro W base args ds gs before hval0 hW hcnd hsz0 hL _
  rw [MakeChecks.laidMetH_plain _ _ _ (by kernel_rfl)] at hL
  have hval : ∀ (j : Nat) t v, Tryd.f3.params[j]? = some t → args[j]? = some v → Value.okWide Tryd.prog W .any base t v := hval0
  have hW' := hW
  obtain ⟨p, q, hA0, hV, rfl, hfz, hnd⟩ := hW
  have hA : DataW.TrodAll enc Tryd.prog W 0 (fun _ => true) true Tryd.f3.params.toList args.toList ds p := hA0
  rw [Tryd.params3] at hA hval
  obtain ⟨v0, vs0, d0, ds0, p0, q0, hargs, rfl, rfl, h0, r0⟩ := trodAll_cons hA
  obtain ⟨v1, vs1, d1, ds1, p1, q1, rfl, rfl, rfl, h1, r1⟩ := trodAll_cons r0
  obtain ⟨v2, vs2, d2, ds2, p2, q2, rfl, rfl, rfl, h2, r2⟩ := trodAll_cons r1
  obtain ⟨v3, vs3, d3, ds3, p3, q3, rfl, rfl, rfl, h3, r3⟩ := trodAll_cons r2
  obtain ⟨rfl, rfl, rfl⟩ := trodAll_nil r3
  obtain rfl : args = #[v0, v1, v2, v3] := by cases args; simp_all
  obtain ⟨rfl, rfl⟩ := trodVars_none hV
  have e0 := okWide_slice Tryd.underlying22 (hval 0 22 v0 rfl rfl)
  have k0 := h0
  have lt0 : ∀ x ∈ p0, x.block < W.heap.size := by obtain ⟨m, hm⟩ := k0; exact DataW.trod_lt m _ _ _ hm
  obtain ⟨A0, c0, l0, rfl, hc0, hC0, hg0⟩ := Go.Proofs.YtopldeeojehklaaDoor.R.open_bytes e0 h0
  have e1 := okWide_struct Tryd.underlying27 (hval 1 27 v1 rfl rfl)
  have k1 := h1
  have lt1 : ∀ x ∈ p1, x.block < W.heap.size := by obtain ⟨m, hm⟩ := k1; exact DataW.trod_lt m _ _ _ hm
  obtain ⟨cs1, rfl, hg1⟩ := Go.Proofs.YtopldeeojehklaaDoor.R.ag_header e1 h1
  have e2 := okWide_struct Tryd.underlying30 (hval 2 30 v2 rfl rfl)
  have k2 := h2
  have lt2 : ∀ x ∈ p2, x.block < W.heap.size := by obtain ⟨m, hm⟩ := k2; exact DataW.trod_lt m _ _ _ hm
  obtain ⟨a2_0, a2_1, a2_2, a2_3, a2_4, a2_5, a2_6, rfl, hg2⟩ := Go.Proofs.YtopldeeojehklaaDoor.R.st_seg e2 h2
  have e3 := okWide_struct Tryd.underlying32 (hval 3 32 v3 rfl rfl)
  have k3 := h3
  have lt3 : ∀ x ∈ p3, x.block < W.heap.size := by obtain ⟨m, hm⟩ := k3; exact DataW.trod_lt m _ _ _ hm
  obtain ⟨a3_0, a3_1, a3_2, a3_3, a3_4, rfl, hg3⟩ := Go.Proofs.YtopldeeojehklaaDoor.R.st_sec e3 h3
  clear hA0 hval0 hsz0
  obtain ⟨k, h⟩ := Go.Proofs.YtopldeeojehklaaDoor.R.Pure.HeaderTells l0 cs1 a2_0 a2_1 a2_2 a2_3 a2_4 a2_5 a2_6 a3_0 a3_1 a3_2 a3_3 a3_4 hg0 hg1 hg2 hg3
  refine (Go.Proofs.YtopldeeojehklaaDoor.R.sundiallaw03_HeaderTells.calls k A0 c0 l0 cs1 a2_0 a2_1 a2_2 a2_3 a2_4 a2_5 a2_6 a3_0 a3_1 a3_2 a3_3 a3_4 true W hC0 hc0 (Go.Proofs.YtopldeeojehklaaDoor.R.laid_of (by first | exact .head _ | exact .tail _ (.head _) | exact .tail _ (.tail _ (.head _)) | exact .tail _ (.tail _ (.tail _ (.head _)))) hL) h).mono ?_
  rintro e W' ⟨rfl, bel⟩
  exact ⟨_, rfl, _, _, _, [], _, [], hW', trodAll_mk1 (shut_bool Tryd.underlying4 _), (trodAll_cons_mk (Below.trod laidOut (by kernel_rfl) (of_decide_eq_true (by kernel_rfl)) k0 bel lt0) (trodAll_cons_mk (Below.trod laidOut (by kernel_rfl) (of_decide_eq_true (by kernel_rfl)) k1 bel lt1) (trodAll_cons_mk (Below.trod laidOut (by kernel_rfl) (of_decide_eq_true (by kernel_rfl)) k2 bel lt2) (trodAll_cons_mk (Below.trod laidOut (by kernel_rfl) (of_decide_eq_true (by kernel_rfl)) k3 bel lt3) trodAll_mk0)))), rfl, bel.frame _, fun h => by cases h⟩
theorem over : Rows.headerTellsRow.holds Tryd.pinned (OpenSpec.ofChange Rows.headerTellsSpec) :=
  OpenClaim.holds_of_wide 3 Tryd.f3 rfl rfl rfl rfl rfl rfl rfl ⟨rfl, rfl, rfl, rfl, rfl⟩ rfl rfl rfl rfl rfl (by kernel_rfl) Tryd.func3 (by kernel_rfl)
    (of_decide_eq_true (by kernel_rfl)) (by unfold Func.isWrapper; first | (rw [if_pos (by decide +kernel)]; kernel_rfl) | (rw [if_neg (by decide +kernel)]; exact ⟨rfl, rfl⟩))
    (fun os started H enc _ => lifted os started H enc)
theorem proved : Rows.HeaderTellsSaid := over
theorem card : Rows.HeaderTellsCardSaid :=
  Claim7.holds_tied_plain_at .later [] [.data, .widerDeep, .widerDeep, .widerDeep] true (true, "77f595bf2cfe60bdebb5d6822e329b7562a333aceda0c9cd5b1439e0cd6bc034") false proved (fun _ h => by cases h) (by kernel_rfl) (fun _ h => by cases h) headerTells_row_tie rfl ⟨rfl, rfl⟩ (by kernel_rfl) rfl
    (fun f fn hf hfn => by
      obtain rfl : f = 3 := Option.some.inj ((show Tryd.prog.funcNamed Rows.headerTellsRow.func = some 3 by kernel_rfl).symm.trans hf) |>.symm
      obtain rfl : fn = Tryd.f3 := (Option.some.inj (Tryd.func3.symm.trans hfn)).symm
      exact ⟨by kernel_rfl, fun j t ht => by
        rw [Tryd.params3] at ht
        have hm : t ∈ [22, 27, 30, 32] := by simpa using Array.mem_of_getElem? ht
        have hall : ([22, 27, 30, 32].all fun u => !Tryd.prog.wantsStandIn u) = true := by kernel_rfl
        exact (show Tryd.prog.wantsStandIn t = false by simpa using List.all_eq_true.1 hall t hm)⟩)
    (by kernel_rfl)
#print axioms card
end Go.Proofs.YtopldeeojehklaaDoor.headerTells
namespace Go.Proofs.YtopldeeojehklaaDoor
theorem headerTells_holds : Rows.HeaderTellsCardSaid := headerTells.card
end Go.Proofs.YtopldeeojehklaaDoor
