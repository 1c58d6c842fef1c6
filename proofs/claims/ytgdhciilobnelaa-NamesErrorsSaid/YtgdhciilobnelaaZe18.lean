/- Rows of bytes of one's own, made longer. NamesBack walked. NamesErrors and NamesBack in the rows' forms. The law sundiallaw04_NamesErrors answers true for every input that the row admits, and the input reads as it did. Conditions: those of the given row alone. (Printed by rowgen.py out of the walk and the plain law.) -/
import Derived.Test.YtgdhciilobnelaaZe17
import Derived.Test.YtgdhciilobnelaaZe14
import Derived.Test.YtgdhciilobnelaaRows
import Derived.WalkKit
import Derived.ProofKit
import Derived.OpenShut
import Derived.ShutString
import Derived.ChangeOld
import Derived.Below
import Derived.SizedLaws
namespace Go.Proofs.Ytgdhciilobnelaa.B
open Go.RowKit Go.Lib Go.Proofs.YtgdhciilobnelaaW.PrintWords Go.Proofs.YtgdhciilobnelaaW.PrintLast Go.Proofs.YtgdhciilobnelaaW.PrintMore Go.RF
set_option linter.unusedVariables false
set_option linter.unusedSimpArgs false
end Go.Proofs.Ytgdhciilobnelaa.B
namespace Go.Proofs.Ytgdhciilobnelaa.B
open Go.RowKit Go.Lib Go.Proofs.YtgdhciilobnelaaW.PrintWords Go.Proofs.YtgdhciilobnelaaW.PrintLast Go.Proofs.YtgdhciilobnelaaW.PrintMore Go.RF
set_option linter.unusedVariables false
set_option linter.unusedSimpArgs false
attribute [local go_sem] max2_int min2_int max_two min_two
end Go.Proofs.Ytgdhciilobnelaa.B
namespace Go.Proofs.Ytgdhciilobnelaa.B
open Go.RowKit Go.Proofs.YtgdhciilobnelaaW.PrintWords Go.RF
set_option linter.unusedVariables false
theorem goods {l : List S41} (hg : ∀ y ∈ l, Good41 y) (h : ∀ x ∈ l, GoodE x) : (∀ x ∈ l, S41ok x) ∧ ∀ x ∈ l, NoZ x.f0 :=
  ⟨fun x hx => ⟨(h x hx).1, (hg x hx).1, (hg x hx).2.1, (hg x hx).2.2.1, (hg x hx).2.2.2⟩, fun x hx => (h x hx).2⟩
theorem Pure.NamesErrors (l : List S41) (a1 a2 a3 : Int) (hg : ∀ y ∈ l, Good41 y) (h1 : (Lit.int .u64 a1).wf = true) (h2 : (Lit.int .u32 a2).wf = true) (h3 : (Lit.int .u32 a3).wf = true) : ∃ k : Nat, (∀ y ∈ l, Good41 y) ∧ Rg a1 ∧ (0 ≤ a2 ∧ a2 < 4294967296) ∧ (0 ≤ a3 ∧ a3 < 4294967296) := ⟨0, hg, wf_rg h1, wf_32 h2, wf_32 h3⟩
theorem sundiallaw04_NamesErrors.calls (k : Nat) (A : Option Addr) (c : Nat) (l : List S41) (a1 a2 a3 : Int) (r : Bool) (w : World) (hC : Kd.C k41 w A l.length l) (hc : l.length ≤ c) (h : (∀ y ∈ l, Good41 y) ∧ Rg a1 ∧ (0 ≤ a2 ∧ a2 < 4294967296) ∧ (0 ≤ a3 ∧ a3 < 4294967296)) :
    Calls Try.prog 4 #[.slice A l.length c, .int .u64 a1, .int .u32 a2, .int .u32 a3] w fun e w' => e = .returned (.bool true) ∧ Below w.heap.size w w' := by
  obtain ⟨hg, q1, q2, q3⟩ := h
  obtain ⟨k, r, h1, h2⟩ := great_tells l
  cases r with
  | true => exact errors_wakes A c l a1 a2 a3 w hC hc ⟨k, h1⟩
  | false =>
    obtain ⟨g1, g2⟩ := h2 rfl
    obtain ⟨o1, o2⟩ := goods hg g2
    exact errors_main A c l a1 a2 a3 w hC hc ⟨k, h1⟩ g1 o1 o2 q1 q2 q3
end Go.Proofs.Ytgdhciilobnelaa.B
namespace Go.Proofs.Ytgdhciilobnelaa.namesErrors
open Go.ChangeShapes Go.WideShapes Go.ChangeAt Go.RowKit
open Go.Proofs.YtgdhciilobnelaaW.PrintWords
set_option linter.unusedVariables false
theorem own : ownKnob Try.prog.godebug = none := by kernel_rfl
theorem laidOut : laidOutB Try.prog = true := by kernel_rfl
set_option maxRecDepth 100000 in
theorem lifted (os : Os) (started : os.Started) (H : Type) (enc : TypeId × Value → H) :
    ReturnsInHanded {} Try.checked os 4 .any (Rows.namesErrorsSpec.pre6 enc Try.prog Try.f4 Rows.namesErrorsRow.domain false) (Rows.namesErrorsSpec.post enc Try.prog Try.f4 false true false false) := by
  refine returnsInHanded_of_change_sized (C := Try.checked) own started (by kernel_rfl) Try.func4
    (ChangeSpec.witness6 (enc := enc) (C := Try.checked) false ⟨#[], #[.slice none 0 0, .int .u64 0, .int .u32 0, .int .u32 0], []⟩ 8 (by kernel_rfl) (by kernel_rfl) (by kernel_rfl) (by kernel_rfl)) ?_
  intro W base args ds gs before hval0 hW hcnd hsz0 _
  have hval : ∀ (j : Nat) t v, Try.f4.params[j]? = some t → args[j]? = some v → Value.okWide Try.prog W .any base t v := hval0
  have hW' := hW
  obtain ⟨p, q, hA0, hV, rfl, hfz, hnd⟩ := hW
  have hA : DataW.TrodAll enc Try.prog W 0 (fun _ => true) true Try.f4.params.toList args.toList ds p := hA0
  rw [Try.params4] at hA hval
  obtain ⟨v0, vs0, d0, ds0, p0, q0, hargs, rfl, rfl, h0, r0⟩ := trodAll_cons hA
  obtain ⟨v1, vs1, d1, ds1, p1, q1, rfl, rfl, rfl, h1, r1⟩ := trodAll_cons r0
  obtain ⟨v2, vs2, d2, ds2, p2, q2, rfl, rfl, rfl, h2, r2⟩ := trodAll_cons r1
  obtain ⟨v3, vs3, d3, ds3, p3, q3, rfl, rfl, rfl, h3, r3⟩ := trodAll_cons r2
  obtain ⟨rfl, rfl, rfl⟩ := trodAll_nil r3
  obtain rfl : args = #[v0, v1, v2, v3] := by cases args; simp_all
  obtain ⟨rfl, rfl⟩ := trodVars_none hV
  have e0 := okWide_slice Try.underlying22 (hval 0 22 v0 rfl rfl)
  have k0 := h0
  have lt0 : ∀ x ∈ p0, x.block < W.heap.size := by obtain ⟨m, hm⟩ := k0; exact DataW.trod_lt m _ _ _ hm
  obtain ⟨A0, c0, l0, rfl, hc0, hC0, hg0⟩ := Go.Proofs.Ytgdhciilobnelaa.B.open_entries e0 h0
  obtain ⟨a1, rfl, rfl, rfl, w1⟩ := open_int Try.underlying26 (hval 1 26 v1 rfl rfl) h1
  obtain ⟨a2, rfl, rfl, rfl, w2⟩ := open_int Try.underlying43 (hval 2 43 v2 rfl rfl) h2
  obtain ⟨a3, rfl, rfl, rfl, w3⟩ := open_int Try.underlying43 (hval 3 43 v3 rfl rfl) h3
  clear hA0 hval0 hsz0
  obtain ⟨k, h⟩ := Go.Proofs.Ytgdhciilobnelaa.B.Pure.NamesErrors l0 a1 a2 a3 hg0 w1 w2 w3
  refine (Go.Proofs.Ytgdhciilobnelaa.B.sundiallaw04_NamesErrors.calls k A0 c0 l0 a1 a2 a3 true W hC0 hc0 h).mono ?_
  rintro e W' ⟨rfl, bel⟩
  exact ⟨_, rfl, _, _, _, [], _, [], hW', trodAll_mk1 (shut_bool Try.underlying4 _), (trodAll_cons_mk (Below.trod laidOut (by kernel_rfl) (of_decide_eq_true (by kernel_rfl)) k0 bel lt0) (trodAll_cons_mk (shut_int Try.underlying26 w1) (trodAll_cons_mk (shut_int Try.underlying43 w2) (trodAll_cons_mk (shut_int Try.underlying43 w3) trodAll_mk0)))), rfl, bel.frame _, fun h => by cases h⟩
theorem over : Rows.namesErrorsRow.holds Try.pinned (OpenSpec.ofChange Rows.namesErrorsSpec) :=
  OpenClaim.holds_of_wide 4 Try.f4 rfl rfl rfl rfl rfl rfl rfl ⟨rfl, rfl, rfl, rfl, rfl⟩ rfl rfl rfl rfl rfl (by kernel_rfl) Try.func4 (by kernel_rfl)
    (of_decide_eq_true (by kernel_rfl)) (by unfold Func.isWrapper; first | (rw [if_pos (by decide +kernel)]; kernel_rfl) | (rw [if_neg (by decide +kernel)]; exact ⟨rfl, rfl⟩))
    (fun os started H enc _ => lifted os started H enc)
theorem proved : Rows.NamesErrorsSaid := over
#print axioms proved
end Go.Proofs.Ytgdhciilobnelaa.namesErrors
namespace Go.Proofs.Ytgdhciilobnelaa
theorem namesErrors_holds : Rows.NamesErrorsSaid := namesErrors.proved
end Go.Proofs.Ytgdhciilobnelaa
