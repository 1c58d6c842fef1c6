/- NamesErrors and NamesBack in the rows' forms. The law sundiallaw04_NamesBack answers true for every input that the row admits, and the input reads as it did. Conditions: those of the given row alone. (Printed by rowgen.py out of the walk and the plain law.) -/
import Derived.Test.YtgdhciilobnelaaZb14
import Derived.Test.YtgdhciilobnelaaZb17
import Derived.Test.YtgdhciilobnelaaRows
import Derived.WalkKit
import Derived.ProofKit
import Derived.OpenShut
import Derived.ShutString
import Derived.ChangeOld
import Derived.Below
import Derived.SizedLaws
namespace Go.Proofs.Ytgdhciilobnelaa.B
open Go.RowKit Go.Proofs.YtgdhciilobnelaaW.PrintWords Go.RF
set_option linter.unusedVariables false
theorem goods {l : List S41} (hg : ∀ y ∈ l, Good41 y) (h : ∀ x ∈ l, GoodE x) : (∀ x ∈ l, S41ok x) ∧ ∀ x ∈ l, NoZ x.f0 :=
  ⟨fun x hx => ⟨(h x hx).1, (hg x hx).1, (hg x hx).2.1, (hg x hx).2.2.1, (hg x hx).2.2.2⟩, fun x hx => (h x hx).2⟩
theorem Pure.NamesBack (a0 : Int) (l : List S41) (bs : List Int) (h0 : (Lit.int .i64 a0).wf = true) (hg : ∀ y ∈ l, Good41 y) (hb : ∀ y ∈ bs, 0 ≤ y ∧ y < 256) : ∃ k : Nat, (∀ y ∈ l, Good41 y) ∧ BB bs := ⟨0, hg, hb⟩
theorem sundiallaw04_NamesBack.calls (k : Nat) (a0 : Int) (A : Option Addr) (c : Nat) (l : List S41) (A2 : Option Addr) (c2 : Nat) (bs : List Int) (r : Bool) (w : World) (hC : Kd.C k41 w A l.length l) (hc : l.length ≤ c) (hC2 : Kd.C (Kd.int .u8) w A2 bs.length bs) (hc2 : bs.length ≤ c2) (h : (∀ y ∈ l, Good41 y) ∧ BB bs) :
    Calls Try.prog 3 #[.int .i64 a0, .slice A l.length c, .slice A2 bs.length c2] w fun e w' => e = .returned (.bool true) ∧ Below w.heap.size w w' := by
  obtain ⟨hg, hb⟩ := h
  obtain ⟨k, r, h1, h2⟩ := great_tells l
  cases r with
  | true => exact back_wakes_a a0 A c l A2 c2 bs w hC hc ⟨k, h1⟩
  | false =>
    by_cases q1 : a0 < 0
    · exact back_wakes_b a0 A c l A2 c2 bs w hC hc ⟨k, h1⟩ q1
    by_cases q2 : 200 < a0
    · exact back_wakes_c a0 A c l A2 c2 bs w hC hc ⟨k, h1⟩ (by omega) q2
    by_cases q3 : 50 < bs.length
    · exact back_wakes_d a0 A c l A2 c2 bs w hC hc ⟨k, h1⟩ (by omega) (by omega) q3
    obtain ⟨g1, g2⟩ := h2 rfl
    obtain ⟨o1, o2⟩ := goods hg g2
    obtain ⟨a, rfl⟩ : ∃ a : Nat, a0 = (a : Int) := ⟨a0.toNat, by omega⟩
    exact back_main a A c l.length bs.length l A2 c2 bs w hC hc ⟨k, h1⟩ hC2 rfl rfl g1 o1 o2 (by omega) (by omega) hb
end Go.Proofs.Ytgdhciilobnelaa.B
namespace Go.Proofs.Ytgdhciilobnelaa.namesBack
open Go.ChangeShapes Go.WideShapes Go.ChangeAt Go.RowKit
open Go.Proofs.YtgdhciilobnelaaW.PrintWords
set_option linter.unusedVariables false
theorem own : ownKnob Try.prog.godebug = none := by kernel_rfl
theorem laidOut : laidOutB Try.prog = true := by kernel_rfl
set_option maxRecDepth 100000 in
theorem lifted (os : Os) (started : os.Started) (H : Type) (enc : TypeId × Value → H) :
    ReturnsInHanded {} Try.checked os 3 .any (Rows.namesBackSpec.pre6 enc Try.prog Try.f3 Rows.namesBackRow.domain false) (Rows.namesBackSpec.post enc Try.prog Try.f3 false true false false) := by
  refine returnsInHanded_of_change_sized (C := Try.checked) own started (by kernel_rfl) Try.func3
    (ChangeSpec.witness6 (enc := enc) (C := Try.checked) false ⟨#[], #[.int .i64 0, .slice none 0 0, .slice none 0 0], []⟩ 8 (by kernel_rfl) (by kernel_rfl) (by kernel_rfl) (by kernel_rfl)) ?_
  intro W base args ds gs before hval0 hW hcnd hsz0 _
  have hval : ∀ (j : Nat) t v, Try.f3.params[j]? = some t → args[j]? = some v → Value.okWide Try.prog W .any base t v := hval0
  have hW' := hW
  obtain ⟨p, q, hA0, hV, rfl, hfz, hnd⟩ := hW
  have hA : DataW.TrodAll enc Try.prog W 0 (fun _ => true) true Try.f3.params.toList args.toList ds p := hA0
  rw [Try.params3] at hA hval
  obtain ⟨v0, vs0, d0, ds0, p0, q0, hargs, rfl, rfl, h0, r0⟩ := trodAll_cons hA
  obtain ⟨v1, vs1, d1, ds1, p1, q1, rfl, rfl, rfl, h1, r1⟩ := trodAll_cons r0
  obtain ⟨v2, vs2, d2, ds2, p2, q2, rfl, rfl, rfl, h2, r2⟩ := trodAll_cons r1
  obtain ⟨rfl, rfl, rfl⟩ := trodAll_nil r2
  obtain rfl : args = #[v0, v1, v2] := by cases args; simp_all
  obtain ⟨rfl, rfl⟩ := trodVars_none hV
  obtain ⟨a0, rfl, rfl, rfl, w0⟩ := open_int Try.underlying3 (hval 0 3 v0 rfl rfl) h0
  have e1 := okWide_slice Try.underlying22 (hval 1 22 v1 rfl rfl)
  have k1 := h1
  have lt1 : ∀ x ∈ p1, x.block < W.heap.size := by obtain ⟨m, hm⟩ := k1; exact DataW.trod_lt m _ _ _ hm
  obtain ⟨A1, c1, l1, rfl, hc1, hC1, hg1⟩ := Go.Proofs.Ytgdhciilobnelaa.B.open_entries e1 h1
  have e2 := okWide_slice Try.underlying23 (hval 2 23 v2 rfl rfl)
  have k2 := h2
  have lt2 : ∀ x ∈ p2, x.block < W.heap.size := by obtain ⟨m, hm⟩ := k2; exact DataW.trod_lt m _ _ _ hm
  obtain ⟨A2, c2, l2, rfl, hc2, hC2, hg2⟩ := Go.Proofs.Ytgdhciilobnelaa.B.open_bytes e2 h2
  clear hA0 hval0 hsz0
  obtain ⟨k, h⟩ := Go.Proofs.Ytgdhciilobnelaa.B.Pure.NamesBack a0 l1 l2 w0 hg1 hg2
  refine (Go.Proofs.Ytgdhciilobnelaa.B.sundiallaw04_NamesBack.calls k a0 A1 c1 l1 A2 c2 l2 true W hC1 hc1 hC2 hc2 h).mono ?_
  rintro e W' ⟨rfl, bel⟩
  exact ⟨_, rfl, _, _, _, [], _, [], hW', trodAll_mk1 (shut_bool Try.underlying4 _), (trodAll_cons_mk (shut_int Try.underlying3 w0) (trodAll_cons_mk (Below.trod laidOut (by kernel_rfl) (of_decide_eq_true (by kernel_rfl)) k1 bel lt1) (trodAll_cons_mk (Below.trod laidOut (by kernel_rfl) (of_decide_eq_true (by kernel_rfl)) k2 bel lt2) trodAll_mk0))), rfl, bel.frame _, fun h => by cases h⟩
theorem over : Rows.namesBackRow.holds Try.pinned (OpenSpec.ofChange Rows.namesBackSpec) :=
  OpenClaim.holds_of_wide 3 Try.f3 rfl rfl rfl rfl rfl rfl rfl ⟨rfl, rfl, rfl, rfl, rfl⟩ rfl rfl rfl rfl rfl (by kernel_rfl) Try.func3 (by kernel_rfl)
    (of_decide_eq_true (by kernel_rfl)) (by unfold Func.isWrapper; first | (rw [if_pos (by decide +kernel)]; kernel_rfl) | (rw [if_neg (by decide +kernel)]; exact ⟨rfl, rfl⟩))
    (fun os started H enc _ => lifted os started H enc)
theorem proved : Rows.NamesBackSaid := over
#print axioms proved
end Go.Proofs.Ytgdhciilobnelaa.namesBack
namespace Go.Proofs.Ytgdhciilobnelaa
theorem namesBack_holds : Rows.NamesBackSaid := namesBack.proved
end Go.Proofs.Ytgdhciilobnelaa
