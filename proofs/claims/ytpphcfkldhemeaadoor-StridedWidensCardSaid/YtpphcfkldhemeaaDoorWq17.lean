/- StridedWidens's walk in the row's form; an argument that is sets, opened. The law sundiallaw22_StridedWidens answers true for every input that the row admits, and the input reads as it did. Conditions: those of the given row alone. (Printed by rowgen.py out of the walk and the plain law.) -/
import Derived.Test.YtpphcfkldhemeaaDoorWq14
import Derived.Test.YtpphcfkldhemeaaDoorWq16
import Derived.Deep.Slices
import Derived.Test.YtpphcfkldhemeaaDoorTie
import Derived.Test.YtpphcfkldhemeaaDoorCards
import Derived.Lay
import Derived.LaidOnce
import Derived.SevenTiedAt
import Derived.Test.YtpphcfkldhemeaaDoorRows
import Derived.WalkKit
import Derived.ProofKit
import Derived.OpenShut
import Derived.ShutString
import Derived.ChangeOld
import Derived.Below
import Derived.SizedLaws
namespace Go.Proofs.YtpphcfkldhemeaaDoor.B
open Go.RowKit Go.Proofs.YtpphcfkldhemeaaDoorW.PrintWords Go.Proofs.YtpphcfkldhemeaaDoorW.PrintLast Go.Proofs.YtpphcfkldhemeaaDoorW.PrintMore Go.Deep Go.ChangeShapes Go.WideShapes Go.ChangeAt
set_option linter.unusedVariables false
section
variable {H : Type} {enc : TypeId × Value → H} {P : Program} {w : World} {base : Nat} {spare : Nat → Bool} {held : Bool}
theorem open_kint {t : TypeId} {k : IntKind} {fuel : Nat} {cs : List Value} {x : DataW H × List MemPlace} (he : P.underlying t = some (.int k)) (h : DataW.trod enc P w base spare held fuel t cs = some x) : ∃ y, (Kd.int k).K w y cs ∧ (Lit.int k y).wf = true := by
  obtain ⟨n, rfl, _, hw⟩ := DataW.trod_int he h
  exact ⟨n, rfl, hw⟩
theorem open_kslice {α : Type} [Inhabited α] (d : Kd α) (good : α → Prop) {t e : TypeId} {fuel : Nat} {cs : List Value} {x : DataW H × List MemPlace} (ht : P.underlying t = some (.slice e)) (hc : P.cellsOf e = d.sz)
    (hel : ∀ fuel cs x, DataW.trod enc P w base spare held fuel e cs = some x → ∃ y, d.K w y cs ∧ good y) (h : DataW.trod enc P w base spare held fuel t cs = some x) :
    ∃ (A : Option Addr) (c : Nat) (xs : List α), cs = [.slice A xs.length c] ∧ xs.length ≤ c ∧ d.C w A xs.length xs ∧ ∀ y ∈ xs, good y := by
  rcases open_slice ht h with ⟨rfl, _⟩ | ⟨a, len, cap, m, n, D, Pl, rfl, hb, hl, hm, hmm, rfl, hx⟩
  · exact ⟨none, 0, [], rfl, Nat.le_refl _, ⟨rfl, by simp, fun h => by simp at h⟩, fun y hy => by simp at hy⟩
  have hlm : len ≤ m := by rw [hmm]; split <;> omega
  obtain ⟨q, hq⟩ := choose_lt (α := α × List Value) (n := len) (p := fun i y => w.cells? base (a.add (i * P.cellsOf e)) (P.cellsOf e) = some y.2 ∧ d.K w y.1 y.2 ∧ good y.1) (fun i hi => by
    obtain ⟨cs', h1, h2⟩ := hx i (by omega)
    obtain ⟨y, h3, h4⟩ := hel _ _ _ h2
    exact ⟨(y, cs'), h1, h3, h4⟩)
  have hlen : ((List.range len).map fun i => (q i).1).length = len := by simp
  refine ⟨some a, cap, (List.range len).map fun i => (q i).1, by rw [hlen], by rw [hlen]; exact hl, ⟨rfl, by rw [hlen]; unfold maxLen at hm; omega, fun _ => ⟨a, rfl, fun j p hj => ?_⟩⟩, fun y hy => ?_⟩
  · obtain ⟨hjl, rfl⟩ := List.getElem?_eq_some_iff.1 hj
    rw [hlen] at hjl
    obtain ⟨h1, h2, h3⟩ := hq j hjl
    obtain ⟨_, hcl, hcell⟩ := World.cells?_some h1
    refine ⟨(q j).2, by rw [hcl, hc], by simpa using h2, fun i u hu => ?_⟩
    have hi := (List.getElem?_eq_some_iff.1 hu).1
    have e1 := hcell i (by omega)
    rw [Go.Deep.add_add, hc, hu] at e1
    exact e1
  · obtain ⟨i, hi, rfl⟩ := List.mem_map.1 hy
    exact (hq i (List.mem_range.1 hi)).2.2
end
def kT : Kd T3 := Kd.pair (Kd.int .u64) (Kd.pair (Kd.int .u64) (Kd.int .u64))
theorem kT_open {w : World} {t : T3} {cs : List Value} (h : kT.K w t cs) : cs = [.int .u64 t.1, .int .u64 t.2.1, .int .u64 t.2.2] := by
  obtain ⟨c0, c1, rfl, h0, d0, d1, rfl, h1, h2⟩ := h
  have h0 : c0 = [.int .u64 t.1] := h0
  have h1 : d0 = [.int .u64 t.2.1] := h1
  have h2 : d1 = [.int .u64 t.2.2] := h2
  subst h0; subst h1; subst h2
  rfl
theorem open_set3 {H : Type} {enc : TypeId × Value → H} {w : World} {base : Nat} {spare : Nat → Bool} {held : Bool} {fuel : Nat} {cs : List Value} {x : DataW H × List MemPlace} (h : DataW.trod enc Tryd.prog w base spare held fuel 24 cs = some x) :
    ∃ y, kT.K w y cs ∧ RgT y := by
  obtain ⟨xs, n, rfl, _, hcl, hxl, hf⟩ := DataW.trod_struct Tryd.underlying24 h
  have hcl' : cs.length = 3 := hcl
  have hxl' : xs.length = 3 := hxl
  match cs, hcl', xs, hxl' with
  | [v0, v1, v2], _, [y0, y1, y2], _ =>
    have g0' : DataW.trod enc Tryd.prog w base spare held n 22 [v0] = some y0 := hf 0 _ rfl
    have g1' : DataW.trod enc Tryd.prog w base spare held n 22 [v1] = some y1 := hf 1 _ rfl
    have g2' : DataW.trod enc Tryd.prog w base spare held n 22 [v2] = some y2 := hf 2 _ rfl
    obtain ⟨a, ha, wa⟩ := open_kint Tryd.underlying22 g0'
    obtain ⟨b, hb, wb⟩ := open_kint Tryd.underlying22 g1'
    obtain ⟨c, hc, wc⟩ := open_kint Tryd.underlying22 g2'
    have e0 : v0 = .int .u64 a := by injection ha
    have e1 : v1 = .int .u64 b := by injection hb
    have e2 : v2 = .int .u64 c := by injection hc
    subst e0; subst e1; subst e2
    exact ⟨(a, b, c), ⟨[.int .u64 a], [.int .u64 b, .int .u64 c], rfl, rfl, [.int .u64 b], [.int .u64 c], rfl, rfl, rfl⟩, rg_wf wa, rg_wf wb, rg_wf wc⟩
theorem open_sets {H : Type} {enc : TypeId × Value → H} {w : World} {base : Nat} {spare : Nat → Bool} {held : Bool} {v : Value} {d : DataW H} {ps : List MemPlace} (hv : ∃ a n c, v = .slice a n c) (h : DataW.Trod enc Tryd.prog w base spare held 37 v d ps) :
    ∃ (A : Option Addr) (c : Nat) (l : List T3), v = .slice A l.length c ∧ l.length ≤ c ∧ Kd.C kT w A l.length l ∧ ∀ y ∈ l, RgT y := by
  obtain ⟨a, n, c, rfl⟩ := hv
  obtain ⟨fuel, hf⟩ := h
  obtain ⟨A, c', l, hcs, hl, hC, hg⟩ := open_kslice kT RgT (e := 24) (by kernel_rfl) (by kernel_rfl) (fun _ _ _ h => open_set3 h) hf
  have e : Value.slice a n c = .slice A l.length c' := by
    simp [Value.cells] at hcs
    obtain ⟨rfl, rfl, rfl⟩ := hcs
    rfl
  exact ⟨A, c', l, e, hl, hC, hg⟩
theorem sets_of {w : World} {A : Option Addr} {l : List T3} (h : Kd.C kT w A l.length l) (hg : ∀ y ∈ l, RgT y) : Sets w A l := by
  intro i x hx
  have hi := (List.getElem?_eq_some_iff.1 hx).1
  obtain ⟨ad, e, hc⟩ := h.2.2 (by omega)
  obtain ⟨c, hcl, hK, hcell0⟩ := hc i x hx
  have hcell : ∀ j u, c[j]? = some u → w.cell? (ad.add (i * 3 + j)) = some u := hcell0
  have hcs := kT_open hK
  subst hcs
  refine ⟨ad, e, ⟨hcell 0 _ rfl, ?_, ?_⟩, hg x (List.mem_of_getElem? hx)⟩
  · rw [← add_field _ _ 1 (by omega)]; exact hcell 1 _ rfl
  · rw [← add_field _ _ 2 (by omega)]; exact hcell 2 _ rfl
def sundiallaw22_StridedWidens.f (k : Nat) (l : List T3) (width : Int) : Option Bool := if (∀ y ∈ l, RgT y) then some true else none
theorem sundiallaw22_StridedWidens.calls (k : Nat) (A : Option Addr) (c : Nat) (l : List T3) (width : Int) (r : Bool) (w : World) (hC : Kd.C kT w A l.length l) (hc : l.length ≤ c) (hT : Tab w) (h : sundiallaw22_StridedWidens.f k l width = some r) :
    Calls Tryd.prog 5 #[.slice A l.length c, .int .i64 width] w fun e w' => e = .returned (.bool r) ∧ Below w.heap.size w w' := by
  unfold sundiallaw22_StridedWidens.f at h
  split at h
  · rename_i hg
    obtain rfl := Option.some.inj h
    by_cases hn : l.length ≤ 300
    · exact widens_true A c l width w hT (sets_of hC hg) hn
    · exact widens_not A c l width w hT (sets_of hC hg) (by omega)
  · cases h
theorem Pure.StridedWidens (l : List T3) (width : Int) (hl : ∀ y ∈ l, RgT y) (hw : (Lit.int .i64 width).wf = true) : ∃ k, sundiallaw22_StridedWidens.f k l width = some true :=
  ⟨0, by unfold sundiallaw22_StridedWidens.f; rw [if_pos hl]⟩
end Go.Proofs.YtpphcfkldhemeaaDoor.B
namespace Go.Proofs.YtpphcfkldhemeaaDoor.stridedWidens
open Go.ChangeShapes Go.WideShapes Go.ChangeAt Go.RowKit
open Go.Proofs.YtpphcfkldhemeaaDoorW.PrintWords
set_option linter.unusedVariables false
theorem own : ownKnob Tryd.prog.godebug = none := by kernel_rfl
theorem laidOut : laidOutB Tryd.prog = true := by kernel_rfl
set_option maxRecDepth 100000 in
theorem lifted (os : Os) (started : os.Started) (H : Type) (enc : TypeId × Value → H) :
    ReturnsInHanded {} Tryd.checked os 5 .any (fun w args => (Rows.stridedWidensSpec.pre enc Tryd.prog Tryd.f5 [] false w args ∧ laidMetH Tryd.prog Rows.stridedWidensRow.laid w) ∧ sizedMet enc Tryd.prog Tryd.f5 (OpenSpec.ofChange Rows.stridedWidensSpec) false w args) (Rows.stridedWidensSpec.post enc Tryd.prog Tryd.f5 false true false false) := by
  refine returnsInHanded_of_change_and (C := Tryd.checked) (X := fun w _ => laidMetH Tryd.prog Rows.stridedWidensRow.laid w) (fun _ _ _ hh h => h.of_heap hh) own started (by kernel_rfl) Tryd.func5
    (ChangeSpec.witness_shaped (enc := enc) (C := Tryd.checked) (os := os) (X := fun w _ => laidMetH Tryd.prog Rows.stridedWidensRow.laid w) false (World.laidAll Tryd.prog os Rows.stridedWidensRow.laid) #[.slice none 0 0, .int .i64 0] 8 (World.laidAll_os _ _ _)
      (World.shaped_of_ZipB (by kernel_rfl) (by kernel_rfl)) (by kernel_rfl) (by kernel_rfl) (by kernel_rfl)
      (by rw [MakeChecks.laidMetH_plain _ _ _ (by kernel_rfl)]; exact laidMet_laidAll _ (by kernel_rfl) (by kernel_rfl))) ?_
  intro W base args ds gs before hval0 hW hcnd hsz0 hL _
  rw [MakeChecks.laidMetH_plain _ _ _ (by kernel_rfl)] at hL
  have hval : ∀ (j : Nat) t v, Tryd.f5.params[j]? = some t → args[j]? = some v → Value.okWide Tryd.prog W .any base t v := hval0
  have hW' := hW
  obtain ⟨p, q, hA0, hV, rfl, hfz, hnd⟩ := hW
  have hA : DataW.TrodAll enc Tryd.prog W 0 (fun _ => true) true Tryd.f5.params.toList args.toList ds p := hA0
  rw [Tryd.params5] at hA hval
  obtain ⟨v0, vs0, d0, ds0, p0, q0, hargs, rfl, rfl, h0, r0⟩ := trodAll_cons hA
  obtain ⟨v1, vs1, d1, ds1, p1, q1, rfl, rfl, rfl, h1, r1⟩ := trodAll_cons r0
  obtain ⟨rfl, rfl, rfl⟩ := trodAll_nil r1
  obtain rfl : args = #[v0, v1] := by cases args; simp_all
  obtain ⟨rfl, rfl⟩ := trodVars_none hV
  have e0 := okWide_slice Tryd.underlying37 (hval 0 37 v0 rfl rfl)
  have k0 := h0
  have lt0 : ∀ x ∈ p0, x.block < W.heap.size := by obtain ⟨m, hm⟩ := k0; exact DataW.trod_lt m _ _ _ hm
  obtain ⟨A0, c0, l0, rfl, hc0, hC0, hg0⟩ := Go.Proofs.YtpphcfkldhemeaaDoor.B.open_sets e0 h0
  obtain ⟨a1, rfl, rfl, rfl, w1⟩ := open_int Tryd.underlying3 (hval 1 3 v1 rfl rfl) h1
  clear hA0 hval0 hsz0
  obtain ⟨k, h⟩ := Go.Proofs.YtpphcfkldhemeaaDoor.B.Pure.StridedWidens l0 a1 hg0 w1
  refine (Go.Proofs.YtpphcfkldhemeaaDoor.B.sundiallaw22_StridedWidens.calls k A0 c0 l0 a1 true W hC0 hc0 (Go.Proofs.YtpphcfkldhemeaaDoor.B.laid_of (by first | exact .head _ | exact .tail _ (.head _) | exact .tail _ (.tail _ (.head _)) | exact .tail _ (.tail _ (.tail _ (.head _)))) hL) h).mono ?_
  rintro e W' ⟨rfl, bel⟩
  exact ⟨_, rfl, _, _, _, [], _, [], hW', trodAll_mk1 (shut_bool Tryd.underlying4 _), (trodAll_cons_mk (Below.trod laidOut (by kernel_rfl) (of_decide_eq_true (by kernel_rfl)) k0 bel lt0) (trodAll_cons_mk (shut_int Tryd.underlying3 w1) trodAll_mk0)), rfl, bel.frame _, fun h => by cases h⟩
theorem over : Rows.stridedWidensRow.holds Tryd.pinned (OpenSpec.ofChange Rows.stridedWidensSpec) :=
  OpenClaim.holds_of_wide 5 Tryd.f5 rfl rfl rfl rfl rfl rfl rfl ⟨rfl, rfl, rfl, rfl, rfl⟩ rfl rfl rfl rfl rfl (by kernel_rfl) Tryd.func5 (by kernel_rfl)
    (of_decide_eq_true (by kernel_rfl)) (by unfold Func.isWrapper; first | (rw [if_pos (by decide +kernel)]; kernel_rfl) | (rw [if_neg (by decide +kernel)]; exact ⟨rfl, rfl⟩))
    (fun os started H enc _ => lifted os started H enc)
theorem proved : Rows.StridedWidensSaid := over
theorem card : Rows.StridedWidensCardSaid :=
  Claim7.holds_tied_plain_at .later [] [.data] true (true, "f3efe11d840ce53b0e8d1bc0d82e88200835e9427a64eb502a01e507f29052df") false proved (fun _ h => by cases h) (by kernel_rfl) (fun _ h => by cases h) stridedWidens_row_tie rfl ⟨rfl, rfl⟩ (by kernel_rfl) rfl
    (fun f fn hf hfn => by
      obtain rfl : f = 5 := Option.some.inj ((show Tryd.prog.funcNamed Rows.stridedWidensRow.func = some 5 by kernel_rfl).symm.trans hf) |>.symm
      obtain rfl : fn = Tryd.f5 := (Option.some.inj (Tryd.func5.symm.trans hfn)).symm
      exact ⟨by kernel_rfl, fun j t ht => by
        rw [Tryd.params5] at ht
        have hm : t ∈ [37, 3] := by simpa using Array.mem_of_getElem? ht
        have hall : ([37, 3].all fun u => !Tryd.prog.wantsStandIn u) = true := by kernel_rfl
        exact (show Tryd.prog.wantsStandIn t = false by simpa using List.all_eq_true.1 hall t hm)⟩)
    (by kernel_rfl)
#print axioms card
end Go.Proofs.YtpphcfkldhemeaaDoor.stridedWidens
namespace Go.Proofs.YtpphcfkldhemeaaDoor
theorem stridedWidens_holds : Rows.StridedWidensCardSaid := stridedWidens.card
end Go.Proofs.YtpphcfkldhemeaaDoor
