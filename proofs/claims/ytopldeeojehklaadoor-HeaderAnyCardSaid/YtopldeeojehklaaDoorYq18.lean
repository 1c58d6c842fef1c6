/- HeaderAny's walk in the row's form; sixteen bytes that are handed in. The law sundiallaw03_HeaderAny answers true for every input that the row admits, and the input reads as it did. Conditions: those of the given row alone. (Printed by rowgen.py out of the walk and the plain law.) -/
import Derived.Test.YtopldeeojehklaaDoorYq15
import Derived.Test.YtopldeeojehklaaDoorYq17
import Derived.Test.YtopldeeojehklaaDoorTie
import Derived.Test.YtopldeeojehklaaDoorCards
import Derived.Lay
import Derived.LaidOnce
import Derived.SevenTiedAt
import Derived.Test.YtopldeeojehklaaDoorRows
import Derived.WalkKit
import Derived.ProofKit
import Derived.OpenShut
import Derived.ShutString
import Derived.ChangeOld
import Derived.Below
import Derived.SizedLaws
namespace Go.Proofs.YtopldeeojehklaaDoor.R
open Go.RowKit Go.Deep Go.ChangeShapes Go.WideShapes Go.ChangeAt Go.Lib Go.Proofs.YtopldeeojehklaaDoorW.PrintWords Go.Proofs.YtopldeeojehklaaDoorW.PrintLast Go.Proofs.YtopldeeojehklaaDoorW.PrintMore Go.Proofs.YtopldeeojehklaaDoor.B Go.RF
set_option linter.unusedVariables false
theorem okWide_array {P : Program} {w : World} {r : Reach} {base : Nat} {t : TypeId} {v : Value} {n : Nat} {e : TypeId} (ht : P.underlying t = some (.array n e)) (h : Value.okWide P w r base t v) : ∃ cs, v = .agg cs ∧ cs.size = P.cellsOf t := by
  simp only [Value.okWide, ht] at h
  obtain ⟨cs, h1, h2, _⟩ := h
  exact ⟨cs, h1, h2⟩
def Bytes16 (cs : Array Value) : Prop := ∃ B : List Int, cs = (nums .u8 B).toArray ∧ B.length = 16 ∧ BB B
theorem byte_rg {x : Int} (h : (Lit.int .u8 x).wf = true) : 0 ≤ x ∧ x < 256 := bb_wf (l := [x]) (fun y hy => by rw [List.mem_singleton] at hy; rw [hy]; exact h) x (by simp)
section
variable {H : Type} {enc : TypeId × Value → H} {w : World} {base : Nat} {spare : Nat → Bool} {held : Bool}
theorem ag_b16 {v : Value} {d : DataW H} {ps : List MemPlace} (hv : ∃ cs, v = .agg cs ∧ cs.size = Tryd.prog.cellsOf 51) (h : DataW.Trod enc Tryd.prog w base spare held 51 v d ps) : ∃ cs, v = .agg cs ∧ Bytes16 cs := by
  obtain ⟨⟨cs⟩, rfl, hsz⟩ := hv
  have hsz' : cs.length = 16 := hsz
  obtain ⟨fuel, hf⟩ := h
  obtain ⟨xs, n, rfl, _, hcl, hxl, hF⟩ := DataW.trod_array (n := 16) (e := 5) (by kernel_rfl) hf
  refine ⟨_, rfl, ?_⟩
  have key : ∀ i, i < 16 → ∃ y : Int, cs[i]? = some (.int .u8 y) ∧ 0 ≤ y ∧ y < 256 := by
    intro i hi
    have h1 := hF i hi
    rw [show Tryd.prog.cellsOf 5 = 1 by kernel_rfl, Nat.mul_one, List.getElem?_eq_getElem (by omega)] at h1
    obtain ⟨y, h2, h3⟩ := open_kint (k := .u8) Tryd.underlying5 h1
    have h2 : (cs.drop i).take 1 = [.int .u8 y] := h2
    refine ⟨y, ?_, byte_rg h3⟩
    have : ((cs.drop i).take 1)[0]? = some (.int .u8 y) := by rw [h2]; rfl
    rw [List.getElem?_take, if_pos (by decide), List.getElem?_drop] at this
    exact this
  have key2 : ∃ B : List Int, B.length = cs.length ∧ cs = nums .u8 B ∧ BB B := by
    have : ∀ (l : List Value), (∀ v ∈ l, ∃ y : Int, v = .int .u8 y ∧ 0 ≤ y ∧ y < 256) → ∃ B : List Int, B.length = l.length ∧ l = nums .u8 B ∧ BB B := by
      intro l
      induction l with
      | nil => exact fun _ => ⟨[], rfl, rfl, fun x hx => by simp at hx⟩
      | cons a r ih =>
        intro hl
        obtain ⟨B, e1, e2, e3⟩ := ih (fun v hv => hl v (List.mem_cons_of_mem _ hv))
        obtain ⟨y, e4, e5⟩ := hl a List.mem_cons_self
        refine ⟨y :: B, by simp [e1], ?_, fun x hx => ?_⟩
        · rw [e4, e2]; rfl
        · rcases List.mem_cons.1 hx with rfl | hx
          · exact e5
          · exact e3 x hx
    refine this cs fun v hv => ?_
    obtain ⟨i, hi, rfl⟩ := List.mem_iff_getElem.1 hv
    obtain ⟨y, e1, e2⟩ := key i (by omega)
    rw [List.getElem?_eq_getElem hi] at e1
    exact ⟨y, Option.some.inj e1, e2⟩
  obtain ⟨B, e1, e2, e3⟩ := key2
  exact ⟨B, by rw [← e2], by omega, e3⟩
end
theorem Pure.HeaderAny {w : World} (cs : Array Value) (a0 a1 a2 a3 a4 a5 a6 b0 b1 b2 b3 b4 : Int) (bs : Array Value) (hg : HdrIn w cs) (h1 : GoodSeg ⟨a0, a1, a2, a3, a4, a5, a6⟩) (h2 : GoodSec ⟨b0, b1, b2, b3, b4⟩) (h3 : Bytes16 bs) : ∃ k : Nat, HdrIn w cs ∧ GoodSeg ⟨a0, a1, a2, a3, a4, a5, a6⟩ ∧ GoodSec ⟨b0, b1, b2, b3, b4⟩ ∧ Bytes16 bs := ⟨0, hg, h1, h2, h3⟩
theorem sundiallaw03_HeaderAny.calls (k : Nat) (cs : Array Value) (s0 s1 s2 s3 s4 s5 s6 b0 b1 b2 b3 b4 : Int) (bs : Array Value) (r : Bool) (w : World) (hT : Tab w) (h : HdrIn w cs ∧ GoodSeg ⟨s0, s1, s2, s3, s4, s5, s6⟩ ∧ GoodSec ⟨b0, b1, b2, b3, b4⟩ ∧ Bytes16 bs) :
    Calls Tryd.prog 7 #[.agg cs, .agg #[.int .u32 s0, .int .u32 s1, .int .u64 s2, .int .u64 s3, .int .u64 s4, .int .u64 s5, .int .u64 s6], .agg #[.int .u32 b0, .int .u64 b1, .int .u64 b2, .int .u32 b3, .int .u64 b4], .agg bs] w fun e w' => e = .returned (.bool true) ∧ Below w.heap.size w w' := by
  obtain ⟨⟨a0, a1, a2, A3, c3, S, A4, c4, C, rfl, C3, l3, C4, l4, r0, r1, r2, G3, G4⟩, g1, g2, B, rfl, hB, hBB⟩ := h
  by_cases q1 : 16 < S.length
  · exact any_wakes_a a0 a1 a2 A3 c3 S A4 c4 C s0 s1 s2 s3 s4 s5 s6 b0 b1 b2 b3 b4 B w C3 l3 C4 l4 hT q1
  by_cases q2 : 32 < C.length
  · exact any_wakes_b a0 a1 a2 A3 c3 S A4 c4 C s0 s1 s2 s3 s4 s5 s6 b0 b1 b2 b3 b4 B w C3 l3 C4 l4 hT ⟨by omega, q2⟩
  exact any_main a0 a1 a2 A3 c3 S A4 c4 C s0 s1 s2 s3 s4 s5 s6 b0 b1 b2 b3 b4 B w C3 l3 C4 l4 hT hB hBB ⟨r0, G3, G4⟩ g1 g2 (by omega) (by omega)
end Go.Proofs.YtopldeeojehklaaDoor.R
namespace Go.Proofs.YtopldeeojehklaaDoor.headerAny
open Go.ChangeShapes Go.WideShapes Go.ChangeAt Go.RowKit
open Go.Proofs.YtopldeeojehklaaDoorW.PrintWords
set_option linter.unusedVariables false
theorem own : ownKnob Tryd.prog.godebug = none := by kernel_rfl
theorem laidOut : laidOutB Tryd.prog = true := by kernel_rfl
set_option maxRecDepth 100000 in
theorem lifted (os : Os) (started : os.Started) (H : Type) (enc : TypeId × Value → H) :
    ReturnsInHanded {} Tryd.checked os 7 .any (fun w args => (Rows.headerAnySpec.pre enc Tryd.prog Tryd.f7 [] false w args ∧ laidMetH Tryd.prog Rows.headerAnyRow.laid w) ∧ sizedMet enc Tryd.prog Tryd.f7 (OpenSpec.ofChange Rows.headerAnySpec) false w args) (Rows.headerAnySpec.post enc Tryd.prog Tryd.f7 false true false false) := by
  refine returnsInHanded_of_change_and (C := Tryd.checked) (X := fun w _ => laidMetH Tryd.prog Rows.headerAnyRow.laid w) (fun _ _ _ hh h => h.of_heap hh) own started (by kernel_rfl) Tryd.func7
    (ChangeSpec.witness_shaped (enc := enc) (C := Tryd.checked) (os := os) (X := fun w _ => laidMetH Tryd.prog Rows.headerAnyRow.laid w) false (World.laidAll Tryd.prog os Rows.headerAnyRow.laid) #[.agg #[.int .u64 0, .int .u64 0, .int .u64 0, .slice none 0 0, .slice none 0 0], .agg #[.int .u32 0, .int .u32 0, .int .u64 0, .int .u64 0, .int .u64 0, .int .u64 0, .int .u64 0], .agg #[.int .u32 0, .int .u64 0, .int .u64 0, .int .u32 0, .int .u64 0], .agg #[.int .u8 0, .int .u8 0, .int .u8 0, .int .u8 0, .int .u8 0, .int .u8 0, .int .u8 0, .int .u8 0, .int .u8 0, .int .u8 0, .int .u8 0, .int .u8 0, .int .u8 0, .int .u8 0, .int .u8 0, .int .u8 0]] 8 (World.laidAll_os _ _ _)
      (World.shaped_of_ZipB (by kernel_rfl) (by kernel_rfl)) (by kernel_rfl) (by kernel_rfl) (by kernel_rfl)
      (by rw [MakeChecks.laidMetH_plain _ _ _ (by kernel_rfl)]; exact laidMet_laidAll _ (by kernel_rfl) (by kernel_rfl))) ?_
  intro W base args ds gs before hval0 hW hcnd hsz0 hL _
  rw [MakeChecks.laidMetH_plain _ _ _ (by kernel_rfl)] at hL
  have hval : ∀ (j : Nat) t v, Tryd.f7.params[j]? = some t → args[j]? = some v → Value.okWide Tryd.prog W .any base t v := hval0
  have hW' := hW
  obtain ⟨p, q, hA0, hV, rfl, hfz, hnd⟩ := hW
  have hA : DataW.TrodAll enc Tryd.prog W 0 (fun _ => true) true Tryd.f7.params.toList args.toList ds p := hA0
  rw [Tryd.params7] at hA hval
  obtain ⟨v0, vs0, d0, ds0, p0, q0, hargs, rfl, rfl, h0, r0⟩ := trodAll_cons hA
  obtain ⟨v1, vs1, d1, ds1, p1, q1, rfl, rfl, rfl, h1, r1⟩ := trodAll_cons r0
  obtain ⟨v2, vs2, d2, ds2, p2, q2, rfl, rfl, rfl, h2, r2⟩ := trodAll_cons r1
  obtain ⟨v3, vs3, d3, ds3, p3, q3, rfl, rfl, rfl, h3, r3⟩ := trodAll_cons r2
  obtain ⟨rfl, rfl, rfl⟩ := trodAll_nil r3
  obtain rfl : args = #[v0, v1, v2, v3] := by cases args; simp_all
  obtain ⟨rfl, rfl⟩ := trodVars_none hV
  have e0 := okWide_struct Tryd.underlying27 (hval 0 27 v0 rfl rfl)
  have k0 := h0
  have lt0 : ∀ x ∈ p0, x.block < W.heap.size := by obtain ⟨m, hm⟩ := k0; exact DataW.trod_lt m _ _ _ hm
  obtain ⟨cs0, rfl, hg0⟩ := Go.Proofs.YtopldeeojehklaaDoor.R.ag_header e0 h0
  have e1 := okWide_struct Tryd.underlying30 (hval 1 30 v1 rfl rfl)
  have k1 := h1
  have lt1 : ∀ x ∈ p1, x.block < W.heap.size := by obtain ⟨m, hm⟩ := k1; exact DataW.trod_lt m _ _ _ hm
  obtain ⟨a1_0, a1_1, a1_2, a1_3, a1_4, a1_5, a1_6, rfl, hg1⟩ := Go.Proofs.YtopldeeojehklaaDoor.R.st_seg e1 h1
  have e2 := okWide_struct Tryd.underlying32 (hval 2 32 v2 rfl rfl)
  have k2 := h2
  have lt2 : ∀ x ∈ p2, x.block < W.heap.size := by obtain ⟨m, hm⟩ := k2; exact DataW.trod_lt m _ _ _ hm
  obtain ⟨a2_0, a2_1, a2_2, a2_3, a2_4, rfl, hg2⟩ := Go.Proofs.YtopldeeojehklaaDoor.R.st_sec e2 h2
  have e3 := Go.Proofs.YtopldeeojehklaaDoor.R.okWide_array Tryd.underlying51 (hval 3 51 v3 rfl rfl)
  have k3 := h3
  have lt3 : ∀ x ∈ p3, x.block < W.heap.size := by obtain ⟨m, hm⟩ := k3; exact DataW.trod_lt m _ _ _ hm
  obtain ⟨cs3, rfl, hg3⟩ := Go.Proofs.YtopldeeojehklaaDoor.R.ag_b16 e3 h3
  clear hA0 hval0 hsz0
  obtain ⟨k, h⟩ := Go.Proofs.YtopldeeojehklaaDoor.R.Pure.HeaderAny cs0 a1_0 a1_1 a1_2 a1_3 a1_4 a1_5 a1_6 a2_0 a2_1 a2_2 a2_3 a2_4 cs3 hg0 hg1 hg2 hg3
  refine (Go.Proofs.YtopldeeojehklaaDoor.R.sundiallaw03_HeaderAny.calls k cs0 a1_0 a1_1 a1_2 a1_3 a1_4 a1_5 a1_6 a2_0 a2_1 a2_2 a2_3 a2_4 cs3 true W (Go.Proofs.YtopldeeojehklaaDoor.R.laid_of (by first | exact .head _ | exact .tail _ (.head _) | exact .tail _ (.tail _ (.head _)) | exact .tail _ (.tail _ (.tail _ (.head _)))) hL) h).mono ?_
  rintro e W' ⟨rfl, bel⟩
  exact ⟨_, rfl, _, _, _, [], _, [], hW', trodAll_mk1 (shut_bool Tryd.underlying4 _), (trodAll_cons_mk (Below.trod laidOut (by kernel_rfl) (of_decide_eq_true (by kernel_rfl)) k0 bel lt0) (trodAll_cons_mk (Below.trod laidOut (by kernel_rfl) (of_decide_eq_true (by kernel_rfl)) k1 bel lt1) (trodAll_cons_mk (Below.trod laidOut (by kernel_rfl) (of_decide_eq_true (by kernel_rfl)) k2 bel lt2) (trodAll_cons_mk (Below.trod laidOut (by kernel_rfl) (of_decide_eq_true (by kernel_rfl)) k3 bel lt3) trodAll_mk0)))), rfl, bel.frame _, fun h => by cases h⟩
theorem over : Rows.headerAnyRow.holds Tryd.pinned (OpenSpec.ofChange Rows.headerAnySpec) :=
  OpenClaim.holds_of_wide 7 Tryd.f7 rfl rfl rfl rfl rfl rfl rfl ⟨rfl, rfl, rfl, rfl, rfl⟩ rfl rfl rfl rfl rfl (by kernel_rfl) Tryd.func7 (by kernel_rfl)
    (of_decide_eq_true (by kernel_rfl)) (by unfold Func.isWrapper; first | (rw [if_pos (by decide +kernel)]; kernel_rfl) | (rw [if_neg (by decide +kernel)]; exact ⟨rfl, rfl⟩))
    (fun os started H enc _ => lifted os started H enc)
theorem proved : Rows.HeaderAnySaid := over
theorem card : Rows.HeaderAnyCardSaid :=
  Claim7.holds_tied_plain_at .later [] [.data, .widerDeep, .widerDeep, .widerDeep] true (true, "77f595bf2cfe60bdebb5d6822e329b7562a333aceda0c9cd5b1439e0cd6bc034") false proved (fun _ h => by cases h) (by kernel_rfl) (fun _ h => by cases h) headerAny_row_tie rfl ⟨rfl, rfl⟩ (by kernel_rfl) rfl
    (fun f fn hf hfn => by
      obtain rfl : f = 7 := Option.some.inj ((show Tryd.prog.funcNamed Rows.headerAnyRow.func = some 7 by kernel_rfl).symm.trans hf) |>.symm
      obtain rfl : fn = Tryd.f7 := (Option.some.inj (Tryd.func7.symm.trans hfn)).symm
      exact ⟨by kernel_rfl, fun j t ht => by
        rw [Tryd.params7] at ht
        have hm : t ∈ [27, 30, 32, 51] := by simpa using Array.mem_of_getElem? ht
        have hall : ([27, 30, 32, 51].all fun u => !Tryd.prog.wantsStandIn u) = true := by kernel_rfl
        exact (show Tryd.prog.wantsStandIn t = false by simpa using List.all_eq_true.1 hall t hm)⟩)
    (by kernel_rfl)
#print axioms card
end Go.Proofs.YtopldeeojehklaaDoor.headerAny
namespace Go.Proofs.YtopldeeojehklaaDoor
theorem headerAny_holds : Rows.HeaderAnyCardSaid := headerAny.card
end Go.Proofs.YtopldeeojehklaaDoor
