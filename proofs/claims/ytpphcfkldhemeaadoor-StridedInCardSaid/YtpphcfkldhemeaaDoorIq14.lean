/- StridedIn's walk in the row's form. The law sundiallaw22_StridedIn answers true for every input that the row admits, and the input reads as it did. Conditions: those of the given row alone. (Printed by rowgen.py out of the walk and the plain law.) -/
import Derived.Test.YtpphcfkldhemeaaDoorIq12
import Derived.Test.YtpphcfkldhemeaaDoorIq13
import Derived.Test.YtpphcfkldhemeaaDoorTie
import Derived.Test.YtpphcfkldhemeaaDoorCards
import Derived.Lay
import Derived.LaidOnce
import Derived.SevenTiedAt
import Derived.Test.YtpphcfkldhemeaaDoorRows
import Derived.WalkKit
import Derived.ProofKit
import Derived.OpenShut
import Derived.ShutString
import Derived.ChangeOld
import Derived.Below
import Derived.SizedLaws
namespace Go.Proofs.YtpphcfkldhemeaaDoor.B
open Go.RowKit
set_option linter.unusedVariables false
def sundiallaw22_StridedIn.f (k : Nat) (a0 a1 a2 b0 b1 b2 c0 c1 c2 : Int) : Option Bool := if RgT (a0, a1, a2) ∧ RgT (b0, b1, b2) ∧ RgT (c0, c1, c2) then some true else none
theorem sundiallaw22_StridedIn.calls (k : Nat) (a0 a1 a2 b0 b1 b2 c0 c1 c2 : Int) (r : Bool) (w : World) (hT : Tab w) (h : sundiallaw22_StridedIn.f k a0 a1 a2 b0 b1 b2 c0 c1 c2 = some r) :
    Calls Tryd.prog 3 #[.agg #[.int .u64 a0, .int .u64 a1, .int .u64 a2], .agg #[.int .u64 b0, .int .u64 b1, .int .u64 b2], .agg #[.int .u64 c0, .int .u64 c1, .int .u64 c2]] w fun e w' => e = .returned (.bool r) ∧ Below w.heap.size w w' := by
  unfold sundiallaw22_StridedIn.f at h
  split at h
  · rename_i hg
    obtain rfl := Option.some.inj h
    exact in_law_calls (a0, a1, a2) (b0, b1, b2) (c0, c1, c2) w hT hg.1 hg.2.1 hg.2.2
  · cases h
theorem Pure.StridedIn (a0 a1 a2 b0 b1 b2 c0 c1 c2 : Int) (ha : GoodSet a0 a1 a2) (hb : GoodSet b0 b1 b2) (hc : GoodSet c0 c1 c2) : ∃ k, sundiallaw22_StridedIn.f k a0 a1 a2 b0 b1 b2 c0 c1 c2 = some true :=
  ⟨0, by unfold sundiallaw22_StridedIn.f; rw [if_pos ⟨ha.rg, hb.rg, hc.rg⟩]⟩
end Go.Proofs.YtpphcfkldhemeaaDoor.B
namespace Go.Proofs.YtpphcfkldhemeaaDoor.stridedIn
open Go.ChangeShapes Go.WideShapes Go.ChangeAt Go.RowKit
open Go.Proofs.YtpphcfkldhemeaaDoorW.PrintWords
set_option linter.unusedVariables false
theorem own : ownKnob Tryd.prog.godebug = none := by kernel_rfl
theorem laidOut : laidOutB Tryd.prog = true := by kernel_rfl
set_option maxRecDepth 100000 in
theorem lifted (os : Os) (started : os.Started) (H : Type) (enc : TypeId × Value → H) :
    ReturnsInHanded {} Tryd.checked os 3 .any (fun w args => (Rows.stridedInSpec.pre enc Tryd.prog Tryd.f3 [] false w args ∧ laidMetH Tryd.prog Rows.stridedInRow.laid w) ∧ sizedMet enc Tryd.prog Tryd.f3 (OpenSpec.ofChange Rows.stridedInSpec) false w args) (Rows.stridedInSpec.post enc Tryd.prog Tryd.f3 false true false false) := by
  refine returnsInHanded_of_change_and (C := Tryd.checked) (X := fun w _ => laidMetH Tryd.prog Rows.stridedInRow.laid w) (fun _ _ _ hh h => h.of_heap hh) own started (by kernel_rfl) Tryd.func3
    (ChangeSpec.witness_shaped (enc := enc) (C := Tryd.checked) (os := os) (X := fun w _ => laidMetH Tryd.prog Rows.stridedInRow.laid w) false (World.laidAll Tryd.prog os Rows.stridedInRow.laid) #[.agg #[.int .u64 0, .int .u64 0, .int .u64 0], .agg #[.int .u64 0, .int .u64 0, .int .u64 0], .agg #[.int .u64 0, .int .u64 0, .int .u64 0]] 8 (World.laidAll_os _ _ _)
      (World.shaped_of_ZipB (by kernel_rfl) (by kernel_rfl)) (by kernel_rfl) (by kernel_rfl) (by kernel_rfl)
      (by rw [MakeChecks.laidMetH_plain _ _ _ (by kernel_rfl)]; exact laidMet_laidAll _ (by kernel_rfl) (by kernel_rfl))) ?_
  intro W base args ds gs before hval0 hW hcnd hsz0 hL _
  rw [MakeChecks.laidMetH_plain _ _ _ (by kernel_rfl)] at hL
  have hval : ∀ (j : Nat) t v, Tryd.f3.params[j]? = some t → args[j]? = some v → Value.okWide Tryd.prog W .any base t v := hval0
  have hW' := hW
  obtain ⟨p, q, hA0, hV, rfl, hfz, hnd⟩ := hW
  have hA : DataW.TrodAll enc Tryd.prog W 0 (fun _ => true) true Tryd.f3.params.toList args.toList ds p := hA0
  rw [Tryd.params3] at hA hval
  obtain ⟨v0, vs0, d0, ds0, p0, q0, hargs, rfl, rfl, h0, r0⟩ := trodAll_cons hA
  obtain ⟨v1, vs1, d1, ds1, p1, q1, rfl, rfl, rfl, h1, r1⟩ := trodAll_cons r0
  obtain ⟨v2, vs2, d2, ds2, p2, q2, rfl, rfl, rfl, h2, r2⟩ := trodAll_cons r1
  obtain ⟨rfl, rfl, rfl⟩ := trodAll_nil r2
  obtain rfl : args = #[v0, v1, v2] := by cases args; simp_all
  obtain ⟨rfl, rfl⟩ := trodVars_none hV
  have e0 := okWide_struct Tryd.underlying24 (hval 0 24 v0 rfl rfl)
  have k0 := h0
  have lt0 : ∀ x ∈ p0, x.block < W.heap.size := by obtain ⟨m, hm⟩ := k0; exact DataW.trod_lt m _ _ _ hm
  obtain ⟨a0_0, a0_1, a0_2, rfl, hg0⟩ := Go.Proofs.YtpphcfkldhemeaaDoor.B.st_set e0 h0
  have e1 := okWide_struct Tryd.underlying24 (hval 1 24 v1 rfl rfl)
  have k1 := h1
  have lt1 : ∀ x ∈ p1, x.block < W.heap.size := by obtain ⟨m, hm⟩ := k1; exact DataW.trod_lt m _ _ _ hm
  obtain ⟨a1_0, a1_1, a1_2, rfl, hg1⟩ := Go.Proofs.YtpphcfkldhemeaaDoor.B.st_set e1 h1
  have e2 := okWide_struct Tryd.underlying24 (hval 2 24 v2 rfl rfl)
  have k2 := h2
  have lt2 : ∀ x ∈ p2, x.block < W.heap.size := by obtain ⟨m, hm⟩ := k2; exact DataW.trod_lt m _ _ _ hm
  obtain ⟨a2_0, a2_1, a2_2, rfl, hg2⟩ := Go.Proofs.YtpphcfkldhemeaaDoor.B.st_set e2 h2
  clear hA0 hval0 hsz0
  obtain ⟨k, h⟩ := Go.Proofs.YtpphcfkldhemeaaDoor.B.Pure.StridedIn a0_0 a0_1 a0_2 a1_0 a1_1 a1_2 a2_0 a2_1 a2_2 hg0 hg1 hg2
  refine (Go.Proofs.YtpphcfkldhemeaaDoor.B.sundiallaw22_StridedIn.calls k a0_0 a0_1 a0_2 a1_0 a1_1 a1_2 a2_0 a2_1 a2_2 true W (Go.Proofs.YtpphcfkldhemeaaDoor.B.laid_of (by first | exact .head _ | exact .tail _ (.head _) | exact .tail _ (.tail _ (.head _)) | exact .tail _ (.tail _ (.tail _ (.head _)))) hL) h).mono ?_
  rintro e W' ⟨rfl, bel⟩
  exact ⟨_, rfl, _, _, _, [], _, [], hW', trodAll_mk1 (shut_bool Tryd.underlying4 _), (trodAll_cons_mk (Below.trod laidOut (by kernel_rfl) (of_decide_eq_true (by kernel_rfl)) k0 bel lt0) (trodAll_cons_mk (Below.trod laidOut (by kernel_rfl) (of_decide_eq_true (by kernel_rfl)) k1 bel lt1) (trodAll_cons_mk (Below.trod laidOut (by kernel_rfl) (of_decide_eq_true (by kernel_rfl)) k2 bel lt2) trodAll_mk0))), rfl, bel.frame _, fun h => by cases h⟩
theorem over : Rows.stridedInRow.holds Tryd.pinned (OpenSpec.ofChange Rows.stridedInSpec) :=
  OpenClaim.holds_of_wide 3 Tryd.f3 rfl rfl rfl rfl rfl rfl rfl ⟨rfl, rfl, rfl, rfl, rfl⟩ rfl rfl rfl rfl rfl (by kernel_rfl) Tryd.func3 (by kernel_rfl)
    (of_decide_eq_true (by kernel_rfl)) (by unfold Func.isWrapper; first | (rw [if_pos (by decide +kernel)]; kernel_rfl) | (rw [if_neg (by decide +kernel)]; exact ⟨rfl, rfl⟩))
    (fun os started H enc _ => lifted os started H enc)
theorem proved : Rows.StridedInSaid := over
theorem card : Rows.StridedInCardSaid :=
  Claim7.holds_tied_plain_at .later [] [.data] true (true, "f3efe11d840ce53b0e8d1bc0d82e88200835e9427a64eb502a01e507f29052df") false proved (fun _ h => by cases h) (by kernel_rfl) (fun _ h => by cases h) stridedIn_row_tie rfl ⟨rfl, rfl⟩ (by kernel_rfl) rfl
    (fun f fn hf hfn => by
      obtain rfl : f = 3 := Option.some.inj ((show Tryd.prog.funcNamed Rows.stridedInRow.func = some 3 by kernel_rfl).symm.trans hf) |>.symm
      obtain rfl : fn = Tryd.f3 := (Option.some.inj (Tryd.func3.symm.trans hfn)).symm
      exact ⟨by kernel_rfl, fun j t ht => by
        rw [Tryd.params3] at ht
        have hm : t ∈ [24, 24, 24] := by simpa using Array.mem_of_getElem? ht
        have hall : ([24, 24, 24].all fun u => !Tryd.prog.wantsStandIn u) = true := by kernel_rfl
        exact (show Tryd.prog.wantsStandIn t = false by simpa using List.all_eq_true.1 hall t hm)⟩)
    (by kernel_rfl)
#print axioms card
end Go.Proofs.YtpphcfkldhemeaaDoor.stridedIn
namespace Go.Proofs.YtpphcfkldhemeaaDoor
theorem stridedIn_holds : Rows.StridedInCardSaid := stridedIn.card
end Go.Proofs.YtpphcfkldhemeaaDoor
