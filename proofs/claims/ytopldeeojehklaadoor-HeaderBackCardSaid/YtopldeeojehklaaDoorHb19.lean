/- HeaderBack's walk in the row's form. The law sundiallaw03_HeaderBack answers true for every input that the row admits, and the input reads as it did. Conditions: those of the given row alone. (Printed by rowgen.py out of the walk and the plain law.) -/
import Derived.Test.YtopldeeojehklaaDoorHb17
import Derived.Test.YtopldeeojehklaaDoorHb18
import Derived.Test.YtopldeeojehklaaDoorTie
import Derived.Test.YtopldeeojehklaaDoorCards
import Derived.Lay
import Derived.LaidOnce
import Derived.SevenTiedAt
import Derived.Test.YtopldeeojehklaaDoorRows
import Derived.WalkKit
import Derived.ProofKit
import Derived.OpenShut
import Derived.ShutString
import Derived.ChangeOld
import Derived.Below
import Derived.SizedLaws
namespace Go.Proofs.YtopldeeojehklaaDoor.R
open Go.RowKit Go.Proofs.YtopldeeojehklaaDoorW.PrintWords Go.Proofs.YtopldeeojehklaaDoorW.PrintLast Go.Proofs.YtopldeeojehklaaDoorW.PrintMore Go.Proofs.YtopldeeojehklaaDoor.B Go.RF
set_option linter.unusedVariables false
theorem Pure.HeaderBack {w : World} (cs : Array Value) (l : List Int) (hg : HdrIn w cs) (hl : ∀ y ∈ l, (Lit.int .u8 y).wf = true) : ∃ k : Nat, HdrIn w cs ∧ BB l := ⟨0, hg, bb_wf hl⟩
theorem sundiallaw03_HeaderBack.calls (k : Nat) (cs : Array Value) (A1 : Option Addr) (c1 : Nat) (l1 : List Int) (r : Bool) (w : World) (hC : Kd.C (Kd.int .u8) w A1 l1.length l1) (hc : l1.length ≤ c1) (hT : Tab w) (h : HdrIn w cs ∧ BB l1) :
    Calls Tryd.prog 4 #[.agg cs, .slice A1 l1.length c1] w fun e w' => e = .returned (.bool true) ∧ Below w.heap.size w w' := by
  obtain ⟨⟨a0, a1, a2, A3, c3, S, A4, c4, C, rfl, C3, l3, C4, l4, r0, r1, r2, G3, G4⟩, hb⟩ := h
  exact Go.Proofs.YtopldeeojehklaaDoor.B.sundiallaw03_HeaderBack.calls 1000 a0 a1 a2 A3 c3 S A4 c4 C A1 c1 l1 w C3 l3 C4 l4 hC hc hT (Go.Proofs.YtopldeeojehklaaDoor.B.Pure.HeaderBack a0 a1 a2 S C l1 r0 G3 G4 hb)
end Go.Proofs.YtopldeeojehklaaDoor.R
namespace Go.Proofs.YtopldeeojehklaaDoor.headerBack
open Go.ChangeShapes Go.WideShapes Go.ChangeAt Go.RowKit
open Go.Proofs.YtopldeeojehklaaDoorW.PrintWords
set_option linter.unusedVariables false
theorem own : ownKnob Tryd.prog.godebug = none := by kernel_rfl
theorem laidOut : laidOutB Tryd.prog = true := by kernel_rfl
set_option maxRecDepth 100000 in
theorem lifted (os : Os) (started : os.Started) (H : Type) (enc : TypeId × Value → H) :
    ReturnsInHanded {} Tryd.checked os 4 .any (fun w args => (Rows.headerBackSpec.pre enc Tryd.prog Tryd.f4 [] false w args ∧ laidMetH Tryd.prog Rows.headerBackRow.laid w) ∧ sizedMet enc Tryd.prog Tryd.f4 (OpenSpec.ofChange Rows.headerBackSpec) false w args) (Rows.headerBackSpec.post enc Tryd.prog Tryd.f4 false true false false) := by
  refine returnsInHanded_of_change_and (C := Tryd.checked) (X := fun w _ => laidMetH Tryd.prog Rows.headerBackRow.laid w) (fun _ _ _ hh h => h.of_heap hh) own started (by kernel_rfl) Tryd.func4
    (ChangeSpec.witness_shaped (enc := enc) (C := Tryd.checked) (os := os) (X := fun w _ => laidMetH Tryd.prog Rows.headerBackRow.laid w) false (World.laidAll Tryd.prog os Rows.headerBackRow.laid) #[.agg #[.int .u64 0, .int .u64 0, .int .u64 0, .slice none 0 0, .slice none 0 0], .slice none 0 0] 8 (World.laidAll_os _ _ _)
      (World.shaped_of_ZipB (by kernel_rfl) (by kernel_rfl)) (by kernel_rfl) (by kernel_rfl) (by kernel_rfl)
      (by rw [MakeChecks.laidMetH_plain _ _ _ (by kernel_rfl)]; exact laidMet_laidAll _ (by kernel_rfl) (by kernel_rfl))) ?_
  intro W base args ds gs before hval0 hW hcnd hsz0 hL _
  rw [MakeChecks.laidMetH_plain _ _ _ (by kernel_rfl)] at hL
  have hval : ∀ (j : Nat) t v, Tryd.f4.params[j]? = some t → args[j]? = some v → Value.okWide Tryd.prog W .any base t v := hval0
  have hW' := hW
  obtain ⟨p, q, hA0, hV, rfl, hfz, hnd⟩ := hW
  have hA : DataW.TrodAll enc Tryd.prog W 0 (fun _ => true) true Tryd.f4.params.toList args.toList ds p := hA0
  rw [Tryd.params4] at hA hval
  obtain ⟨v0, vs0, d0, ds0, p0, q0, hargs, rfl, rfl, h0, r0⟩ := trodAll_cons hA
  obtain ⟨v1, vs1, d1, ds1, p1, q1, rfl, rfl, rfl, h1, r1⟩ := trodAll_cons r0
  obtain ⟨rfl, rfl, rfl⟩ := trodAll_nil r1
  obtain rfl : args = #[v0, v1] := by cases args; simp_all
  obtain ⟨rfl, rfl⟩ := trodVars_none hV
  have e0 := okWide_struct Tryd.underlying27 (hval 0 27 v0 rfl rfl)
  have k0 := h0
  have lt0 : ∀ x ∈ p0, x.block < W.heap.size := by obtain ⟨m, hm⟩ := k0; exact DataW.trod_lt m _ _ _ hm
  obtain ⟨cs0, rfl, hg0⟩ := Go.Proofs.YtopldeeojehklaaDoor.R.ag_header e0 h0
  have e1 := okWide_slice Tryd.underlying22 (hval 1 22 v1 rfl rfl)
  have k1 := h1
  have lt1 : ∀ x ∈ p1, x.block < W.heap.size := by obtain ⟨m, hm⟩ := k1; exact DataW.trod_lt m _ _ _ hm
  obtain ⟨A1, c1, l1, rfl, hc1, hC1, hg1⟩ := Go.Proofs.YtopldeeojehklaaDoor.R.open_bytes e1 h1
  clear hA0 hval0 hsz0
  obtain ⟨k, h⟩ := Go.Proofs.YtopldeeojehklaaDoor.R.Pure.HeaderBack cs0 l1 hg0 hg1
  refine (Go.Proofs.YtopldeeojehklaaDoor.R.sundiallaw03_HeaderBack.calls k cs0 A1 c1 l1 true W hC1 hc1 (Go.Proofs.YtopldeeojehklaaDoor.R.laid_of (by first | exact .head _ | exact .tail _ (.head _) | exact .tail _ (.tail _ (.head _)) | exact .tail _ (.tail _ (.tail _ (.head _)))) hL) h).mono ?_
  rintro e W' ⟨rfl, bel⟩
  exact ⟨_, rfl, _, _, _, [], _, [], hW', trodAll_mk1 (shut_bool Tryd.underlying4 _), (trodAll_cons_mk (Below.trod laidOut (by kernel_rfl) (of_decide_eq_true (by kernel_rfl)) k0 bel lt0) (trodAll_cons_mk (Below.trod laidOut (by kernel_rfl) (of_decide_eq_true (by kernel_rfl)) k1 bel lt1) trodAll_mk0)), rfl, bel.frame _, fun h => by cases h⟩
theorem over : Rows.headerBackRow.holds Tryd.pinned (OpenSpec.ofChange Rows.headerBackSpec) :=
  OpenClaim.holds_of_wide 4 Tryd.f4 rfl rfl rfl rfl rfl rfl rfl ⟨rfl, rfl, rfl, rfl, rfl⟩ rfl rfl rfl rfl rfl (by kernel_rfl) Tryd.func4 (by kernel_rfl)
    (of_decide_eq_true (by kernel_rfl)) (by unfold Func.isWrapper; first | (rw [if_pos (by decide +kernel)]; kernel_rfl) | (rw [if_neg (by decide +kernel)]; exact ⟨rfl, rfl⟩))
    (fun os started H enc _ => lifted os started H enc)
theorem proved : Rows.HeaderBackSaid := over
theorem card : Rows.HeaderBackCardSaid :=
  Claim7.holds_tied_plain_at .later [] [.data, .widerDeep, .widerDeep, .widerDeep] true (true, "77f595bf2cfe60bdebb5d6822e329b7562a333aceda0c9cd5b1439e0cd6bc034") false proved (fun _ h => by cases h) (by kernel_rfl) (fun _ h => by cases h) headerBack_row_tie rfl ⟨rfl, rfl⟩ (by kernel_rfl) rfl
    (fun f fn hf hfn => by
      obtain rfl : f = 4 := Option.some.inj ((show Tryd.prog.funcNamed Rows.headerBackRow.func = some 4 by kernel_rfl).symm.trans hf) |>.symm
      obtain rfl : fn = Tryd.f4 := (Option.some.inj (Tryd.func4.symm.trans hfn)).symm
      exact ⟨by kernel_rfl, fun j t ht => by
        rw [Tryd.params4] at ht
        have hm : t ∈ [27, 22] := by simpa using Array.mem_of_getElem? ht
        have hall : ([27, 22].all fun u => !Tryd.prog.wantsStandIn u) = true := by kernel_rfl
        exact (show Tryd.prog.wantsStandIn t = false by simpa using List.all_eq_true.1 hall t hm)⟩)
    (by kernel_rfl)
#print axioms card
end Go.Proofs.YtopldeeojehklaaDoor.headerBack
namespace Go.Proofs.YtopldeeojehklaaDoor
theorem headerBack_holds : Rows.HeaderBackCardSaid := headerBack.card
end Go.Proofs.YtopldeeojehklaaDoor
