/- What the rows of the sets' laws hand in: sets of words; the table of masks where it is laid. StridedOrder's walk in the row's form. The law sundiallaw22_StridedOrder answers true for every input that the row admits, and the input reads as it did. Conditions: those of the given row alone. (Printed by rowgen.py out of the walk and the plain law.) -/
import Derived.Test.YtpphcfkldhemeaaDoorOq13
import Derived.Test.YtpphcfkldhemeaaDoorRows
import Derived.ProofKit
import Derived.OpenShut
import Derived.LaidLaws
import Derived.Lib.LaidTab
import Derived.ChangeSame
import Derived.Test.YtpphcfkldhemeaaDoorTie
import Derived.Test.YtpphcfkldhemeaaDoorCards
import Derived.Lay
import Derived.LaidOnce
import Derived.SevenTiedAt
import Derived.WalkKit
import Derived.ShutString
import Derived.ChangeOld
import Derived.Below
import Derived.SizedLaws
namespace Go.Proofs.YtpphcfkldhemeaaDoor.B
open Go.RowKit Go.ChangeShapes Go.WideShapes Go.ChangeAt Go.Lib Go.Proofs.YtpphcfkldhemeaaDoorW.PrintWords
set_option linter.unusedVariables false
def GoodSet (a b c : Int) : Prop := (Lit.int .u64 a).wf = true ∧ (Lit.int .u64 b).wf = true ∧ (Lit.int .u64 c).wf = true
theorem st_set {H : Type} {enc : TypeId × Value → H} {w : World} {base : Nat} {spare : Nat → Bool} {held : Bool} {v : Value} {d : DataW H} {ps : List MemPlace} (hv : ∃ cs, v = .agg cs ∧ cs.size = Tryd.prog.cellsOf 24) (h : DataW.Trod enc Tryd.prog w base spare held 24 v d ps) :
    ∃ a b c, v = .agg #[.int .u64 a, .int .u64 b, .int .u64 c] ∧ GoodSet a b c := by
  obtain ⟨⟨cs⟩, rfl, hsz⟩ := hv
  have hsz' : cs.length = 3 := hsz
  obtain ⟨fuel, hf⟩ := h
  obtain ⟨xs, n, rfl, _, hcl, hxl, hF⟩ := DataW.trod_struct Tryd.underlying24 hf
  have hxl' : xs.length = 3 := hxl
  match cs, hsz', xs, hxl' with
  | [v0, v1, v2], _, [y0, y1, y2], _ =>
    have g0' : DataW.trod enc Tryd.prog w base spare held n 22 [v0] = some y0 := hF 0 _ rfl
    have g1' : DataW.trod enc Tryd.prog w base spare held n 22 [v1] = some y1 := hF 1 _ rfl
    have g2' : DataW.trod enc Tryd.prog w base spare held n 22 [v2] = some y2 := hF 2 _ rfl
    obtain ⟨a, ha, _, wa⟩ := DataW.trod_int Tryd.underlying22 g0'
    obtain ⟨b, hb, _, wb⟩ := DataW.trod_int Tryd.underlying22 g1'
    obtain ⟨c, hc, _, wc⟩ := DataW.trod_int Tryd.underlying22 g2'
    injection ha with ha; injection hb with hb; injection hc with hc
    subst ha; subst hb; subst hc
    exact ⟨a, b, c, rfl, wa, wb, wc⟩
theorem laid_read {P : Program} {w : World} : ∀ {l : List (String × DataW Unit)} {ps : List MemPlace}, DataW.LaidVars P w l ps → ∀ n d, (n, d) ∈ l →
    ∃ g t cs fuel p, P.globalNamed n = some g ∧ (P.globals[g]?).map (·.type) = some t ∧ w.var? P n = some cs ∧ DataW.trod (fun _ => ()) P w 0 (fun _ => true) false fuel t cs.toList = some (d, p)
  | [], _, _, _, _, hm => by cases hm
  | (n', d') :: r, ps, h, n, d, hm => by
    obtain ⟨g, t, cs, fuel, p, q, h1, h2, h3, h4, h5, _⟩ := h
    rcases List.mem_cons.1 hm with e | e
    · cases e
      exact ⟨g, t, cs, fuel, p, h1, h2, h3, h4⟩
    · exact laid_read h5 n d e
theorem tab_at {P : Program} {w : World} {l : List (String × DataW Unit)} {name : String} {k : IntKind} {zs : List Int} {g t e n : Nat} (hL : laidMet P l w) (hm : (name, (tabData k zs : DataW Unit)) ∈ l) (hg : P.globalNamed name = some g)
    (htt : (P.globals[g]?).map (·.type) = some t) (ht : P.underlying t = some (.array n e)) (he : P.underlying e = some (.int k)) (hce : P.cellsOf e = 1) (hct : P.cellsOf t = n) (i : Nat) (z : Int) (hz : zs[i]? = some z) :
    w.cell? ⟨g, i, none⟩ = some (.int k z) := by
  obtain ⟨ps, hv, -⟩ := hL
  obtain ⟨g', t', cs, fuel, p, h1, h2, h3, h4⟩ := laid_read hv _ _ hm
  obtain rfl : g' = g := Option.some.inj (h1.symm.trans hg)
  obtain rfl : t' = t := Option.some.inj (h2.symm.trans htt)
  have hcs := cells_of_tab ht he hce hct h4
  unfold World.var? at h3
  rw [hg] at h3
  simp only [Option.bind_some] at h3
  unfold World.cell?
  cases hh : w.heap[g']? with
  | none => rw [hh] at h3; simp at h3
  | some o =>
    rw [hh] at h3
    cases o with
    | cells c tt fr =>
      simp only [Option.some.injEq] at h3
      subst h3
      have : c[i]? = some (.int k z) := by
        have e1 : c.toList[i]? = some (.int k z) := by rw [hcs]; simp [hz]
        simpa using e1
      simp [this]
    | _ => simp at h3
theorem laid_of {l : List (String × DataW Unit)} {w : World} (hm : ("sundial/bits.masks", (Rows.laid_sundial_bits_masks : DataW Unit)) ∈ l) (hL : laidMet Tryd.prog l w) : Tab w :=
  fun i z hz => tab_at hL hm (by kernel_rfl) (t := 59) (by kernel_rfl) (n := 9) (e := 22) (by kernel_rfl) (by kernel_rfl) (by kernel_rfl) (by kernel_rfl) i z hz
theorem rg_wf {x : Int} (h : (Lit.int .u64 x).wf = true) : Rg x := by
  have h : IntKind.u64.min ≤ x ∧ x ≤ IntKind.u64.max := by simpa [Lit.wf] using h
  have e0 : IntKind.u64.min = 0 := by decide
  have e1 : IntKind.u64.max = 18446744073709551615 := by decide
  unfold Rg
  omega
instance (t : T3) : Decidable (RgT t) := by unfold RgT Rg; exact inferInstance
def sundiallaw22_StridedOrder.f (k : Nat) (a0 a1 a2 b0 b1 b2 c0 c1 c2 width : Int) : Option Bool := if RgT (a0, a1, a2) ∧ RgT (b0, b1, b2) ∧ RgT (c0, c1, c2) then some true else none
theorem sundiallaw22_StridedOrder.calls (k : Nat) (a0 a1 a2 b0 b1 b2 c0 c1 c2 width : Int) (r : Bool) (w : World) (hT : Tab w) (h : sundiallaw22_StridedOrder.f k a0 a1 a2 b0 b1 b2 c0 c1 c2 width = some r) :
    Calls Tryd.prog 4 #[.agg #[.int .u64 a0, .int .u64 a1, .int .u64 a2], .agg #[.int .u64 b0, .int .u64 b1, .int .u64 b2], .agg #[.int .u64 c0, .int .u64 c1, .int .u64 c2], .int .i64 width] w fun e w' => e = .returned (.bool r) ∧ Below w.heap.size w w' := by
  unfold sundiallaw22_StridedOrder.f at h
  split at h
  · rename_i hg
    obtain rfl := Option.some.inj h
    exact order_calls (a0, a1, a2) (b0, b1, b2) (c0, c1, c2) width w hT hg.1 hg.2.1 hg.2.2
  · cases h
theorem GoodSet.rg {a b c : Int} (h : GoodSet a b c) : RgT (a, b, c) := ⟨rg_wf h.1, rg_wf h.2.1, rg_wf h.2.2⟩
theorem Pure.StridedOrder (a0 a1 a2 b0 b1 b2 c0 c1 c2 width : Int) (ha : GoodSet a0 a1 a2) (hb : GoodSet b0 b1 b2) (hc : GoodSet c0 c1 c2) (hw : (Lit.int .i64 width).wf = true) : ∃ k, sundiallaw22_StridedOrder.f k a0 a1 a2 b0 b1 b2 c0 c1 c2 width = some true :=
  ⟨0, by unfold sundiallaw22_StridedOrder.f; rw [if_pos ⟨ha.rg, hb.rg, hc.rg⟩]⟩
end Go.Proofs.YtpphcfkldhemeaaDoor.B
namespace Go.Proofs.YtpphcfkldhemeaaDoor.stridedOrder
open Go.ChangeShapes Go.WideShapes Go.ChangeAt Go.RowKit
open Go.Proofs.YtpphcfkldhemeaaDoorW.PrintWords
set_option linter.unusedVariables false
theorem own : ownKnob Tryd.prog.godebug = none := by kernel_rfl
theorem laidOut : laidOutB Tryd.prog = true := by kernel_rfl
set_option maxRecDepth 100000 in
theorem lifted (os : Os) (started : os.Started) (H : Type) (enc : TypeId × Value → H) :
    ReturnsInHanded {} Tryd.checked os 4 .any (fun w args => (Rows.stridedOrderSpec.pre enc Tryd.prog Tryd.f4 [] false w args ∧ laidMetH Tryd.prog Rows.stridedOrderRow.laid w) ∧ sizedMet enc Tryd.prog Tryd.f4 (OpenSpec.ofChange Rows.stridedOrderSpec) false w args) (Rows.stridedOrderSpec.post enc Tryd.prog Tryd.f4 false true false false) := by
  refine returnsInHanded_of_change_and (C := Tryd.checked) (X := fun w _ => laidMetH Tryd.prog Rows.stridedOrderRow.laid w) (fun _ _ _ hh h => h.of_heap hh) own started (by kernel_rfl) Tryd.func4
    (ChangeSpec.witness_shaped (enc := enc) (C := Tryd.checked) (os := os) (X := fun w _ => laidMetH Tryd.prog Rows.stridedOrderRow.laid w) false (World.laidAll Tryd.prog os Rows.stridedOrderRow.laid) #[.agg #[.int .u64 0, .int .u64 0, .int .u64 0], .agg #[.int .u64 0, .int .u64 0, .int .u64 0], .agg #[.int .u64 0, .int .u64 0, .int .u64 0], .int .i64 0] 8 (World.laidAll_os _ _ _)
      (World.shaped_of_ZipB (by kernel_rfl) (by kernel_rfl)) (by kernel_rfl) (by kernel_rfl) (by kernel_rfl)
      (by rw [MakeChecks.laidMetH_plain _ _ _ (by kernel_rfl)]; exact laidMet_laidAll _ (by kernel_rfl) (by kernel_rfl))) ?_
  intro W base args ds gs before hval0 hW hcnd hsz0 hL _
  rw [MakeChecks.laidMetH_plain _ _ _ (by kernel_rfl)] at hL
  have hval : ∀ (j : Nat) t v, Tryd.f4.params[j]? = some t → args[j]? = some v → Value.okWide Tryd.prog W .any base t v := hval0
  have hW' := hW
  obtain ⟨p, q, hA0, hV, rfl, hfz, hnd⟩ := hW
  have hA : DataW.TrodAll enc Tryd.prog W 0 (fun _ => true) true Tryd.f4.params.toList args.toList ds p := hA0
  rw [Tryd.params4] at hA hval
  obtain ⟨v0, vs0, d0, ds0, p0, q0, hargs, rfl, rfl, h0, r0⟩ := trodAll_cons hA
  obtain ⟨v1, vs1, d1, ds1, p1, q1, rfl, rfl, rfl, h1, r1⟩ := trodAll_cons r0
  obtain ⟨v2, vs2, d2, ds2, p2, q2, rfl, rfl, rfl, h2, r2⟩ := trodAll_cons r1
  obtain ⟨v3, vs3, d3, ds3, p3, q3, rfl, rfl, rfl, h3, r3⟩ := trodAll_cons r2
  obtain ⟨rfl, rfl, rfl⟩ := trodAll_nil r3
  obtain rfl : args = #[v0, v1, v2, v3] := by cases args; simp_all
  obtain ⟨rfl, rfl⟩ := trodVars_none hV
  have e0 := okWide_struct Tryd.underlying24 (hval 0 24 v0 rfl rfl)
  have k0 := h0
  have lt0 : ∀ x ∈ p0, x.block < W.heap.size := by obtain ⟨m, hm⟩ := k0; exact DataW.trod_lt m _ _ _ hm
  obtain ⟨a0_0, a0_1, a0_2, rfl, hg0⟩ := Go.Proofs.YtpphcfkldhemeaaDoor.B.st_set e0 h0
  have e1 := okWide_struct Tryd.underlying24 (hval 1 24 v1 rfl rfl)
  have k1 := h1
  have lt1 : ∀ x ∈ p1, x.block < W.heap.size := by obtain ⟨m, hm⟩ := k1; exact DataW.trod_lt m _ _ _ hm
  obtain ⟨a1_0, a1_1, a1_2, rfl, hg1⟩ := Go.Proofs.YtpphcfkldhemeaaDoor.B.st_set e1 h1
  have e2 := okWide_struct Tryd.underlying24 (hval 2 24 v2 rfl rfl)
  have k2 := h2
  have lt2 : ∀ x ∈ p2, x.block < W.heap.size := by obtain ⟨m, hm⟩ := k2; exact DataW.trod_lt m _ _ _ hm
  obtain ⟨a2_0, a2_1, a2_2, rfl, hg2⟩ := Go.Proofs.YtpphcfkldhemeaaDoor.B.st_set e2 h2
  obtain ⟨a3, rfl, rfl, rfl, w3⟩ := open_int Tryd.underlying3 (hval 3 3 v3 rfl rfl) h3
  clear hA0 hval0 hsz0
  obtain ⟨k, h⟩ := Go.Proofs.YtpphcfkldhemeaaDoor.B.Pure.StridedOrder a0_0 a0_1 a0_2 a1_0 a1_1 a1_2 a2_0 a2_1 a2_2 a3 hg0 hg1 hg2 w3
  refine (Go.Proofs.YtpphcfkldhemeaaDoor.B.sundiallaw22_StridedOrder.calls k a0_0 a0_1 a0_2 a1_0 a1_1 a1_2 a2_0 a2_1 a2_2 a3 true W (Go.Proofs.YtpphcfkldhemeaaDoor.B.laid_of (by first | exact .head _ | exact .tail _ (.head _) | exact .tail _ (.tail _ (.head _)) | exact .tail _ (.tail _ (.tail _ (.head _)))) hL) h).mono ?_
  rintro e W' ⟨rfl, bel⟩
  exact ⟨_, rfl, _, _, _, [], _, [], hW', trodAll_mk1 (shut_bool Tryd.underlying4 _), (trodAll_cons_mk (Below.trod laidOut (by kernel_rfl) (of_decide_eq_true (by kernel_rfl)) k0 bel lt0) (trodAll_cons_mk (Below.trod laidOut (by kernel_rfl) (of_decide_eq_true (by kernel_rfl)) k1 bel lt1) (trodAll_cons_mk (Below.trod laidOut (by kernel_rfl) (of_decide_eq_true (by kernel_rfl)) k2 bel lt2) (trodAll_cons_mk (shut_int Tryd.underlying3 w3) trodAll_mk0)))), rfl, bel.frame _, fun h => by cases h⟩
theorem over : Rows.stridedOrderRow.holds Tryd.pinned (OpenSpec.ofChange Rows.stridedOrderSpec) :=
  OpenClaim.holds_of_wide 4 Tryd.f4 rfl rfl rfl rfl rfl rfl rfl ⟨rfl, rfl, rfl, rfl, rfl⟩ rfl rfl rfl rfl rfl (by kernel_rfl) Tryd.func4 (by kernel_rfl)
    (of_decide_eq_true (by kernel_rfl)) (by unfold Func.isWrapper; first | (rw [if_pos (by decide +kernel)]; kernel_rfl) | (rw [if_neg (by decide +kernel)]; exact ⟨rfl, rfl⟩))
    (fun os started H enc _ => lifted os started H enc)
theorem proved : Rows.StridedOrderSaid := over
theorem card : Rows.StridedOrderCardSaid :=
  Claim7.holds_tied_plain_at .later [] [.data] true (true, "f3efe11d840ce53b0e8d1bc0d82e88200835e9427a64eb502a01e507f29052df") false proved (fun _ h => by cases h) (by kernel_rfl) (fun _ h => by cases h) stridedOrder_row_tie rfl ⟨rfl, rfl⟩ (by kernel_rfl) rfl
    (fun f fn hf hfn => by
      obtain rfl : f = 4 := Option.some.inj ((show Tryd.prog.funcNamed Rows.stridedOrderRow.func = some 4 by kernel_rfl).symm.trans hf) |>.symm
      obtain rfl : fn = Tryd.f4 := (Option.some.inj (Tryd.func4.symm.trans hfn)).symm
      exact ⟨by kernel_rfl, fun j t ht => by
        rw [Tryd.params4] at ht
        have hm : t ∈ [24, 24, 24, 3] := by simpa using Array.mem_of_getElem? ht
        have hall : ([24, 24, 24, 3].all fun u => !Tryd.prog.wantsStandIn u) = true := by kernel_rfl
        exact (show Tryd.prog.wantsStandIn t = false by simpa using List.all_eq_true.1 hall t hm)⟩)
    (by kernel_rfl)
#print axioms card
end Go.Proofs.YtpphcfkldhemeaaDoor.stridedOrder
namespace Go.Proofs.YtpphcfkldhemeaaDoor
theorem stridedOrder_holds : Rows.StridedOrderCardSaid := stridedOrder.card
end Go.Proofs.YtpphcfkldhemeaaDoor
