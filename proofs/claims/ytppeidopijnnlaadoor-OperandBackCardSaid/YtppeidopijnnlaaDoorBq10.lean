/- What the printed texts of the namespace C are given: contracts of operand.Take, operand.Uses, operand.Put, and of the law's check at constants. What a slice of bytes that is handed in holds. The row's condition on the listed tables, as facts of cells; and what an operand that is handed in holds. -/
import Derived.Test.YtppeidopijnnlaaDoorBq7
import Derived.Test.YtppeidopijnnlaaDoorBq9
import Derived.Test.YtppeidopijnnlaaDoorProg
import Derived.Test.YtppeidopijnnlaaDoorBq3
import Derived.Test.YtppeidopijnnlaaDoorBq2
import Derived.Deep.Slices
import Derived.ProofKit
import Derived.Test.YtppeidopijnnlaaDoorRows
import Derived.Lib.LaidTab
import Derived.OpenShut
import Derived.ChangeSame
import Derived.Below
import Derived.Deep.Draws
import Derived.Deep.AppendLies
import Derived.Maps.AppendAt
import Derived.OwnWalk
import Derived.Laws.BytesArg
import Derived.Laws.MakeOwn
import Derived.Laws.OwnMore
import Derived.Deep.OwnRows
import Derived.Tactics
import Derived.Lib.ConvBytes
import Derived.Laws.Slices
import Derived.WalkKit
import Derived.KernelRfl
import Derived.RowKit3
import Derived.Deep.LoopGhost
import Derived.Deep.QuietTactic
import Derived.BigQuiet
import Derived.WideLaws
import Derived.Deep.DeepCutAuto
import Derived.Deep.CutBlock
import Derived.Deep.RegionHeld3
import Derived.Laws.Rows
import Derived.Lib.AppendStr
import Derived.ArgAppend
import Derived.Laws.IdiomCopy
import Derived.OrdersHeld
import Derived.Laws.BitsLemmas
import Derived.RowKit
import Derived.Test.YtppeidopijnnlaaDoorBq1
namespace Go.Proofs.YtppeidopijnnlaaDoor.C
open Go.RowKit Go.Proofs.YtppeidopijnnlaaDoorW.PrintWords Go.Proofs.YtppeidopijnnlaaDoorW.PrintMore Go.RF
set_option linter.unusedVariables false
abbrev TakeT := B.TakeT
noncomputable def G.Take : List Int → Int → Option TakeT := B.G.Take
theorem G.Take_calls (A0 : Option Addr) (c0 : Nat) (l0 : List Int) (a1 : Int) (r1 : Int) (r2 : Int) (r3 : Int) (r4 : Int) (r5 : Int) (r6 : Int) (r7 : Int) (r8 : Bool) (r9 : Int) (r10 : Int) (r11 : Int) (w : World) (hr0 : Kd.C (Kd.int .u8) w A0 l0.length l0) (hc0 : l0.length ≤ c0) (h : G.Take l0 a1 = some (r1, r2, r3, r4, r5, r6, r7, r8, r9, r10, r11)) :
    Calls Tryd.prog 11 #[.slice A0 l0.length c0, .int .u8 a1] w fun e w' => e = .returned (.tuple #[.int .i64 r1, .agg #[.int .u8 r2, .int .i64 r3, .int .i64 r4, .int .i64 r5, .int .i64 r6, .int .i64 r7, .bool r8, .int .i64 r9], .int .i64 r10, .int .i64 r11]) ∧ Below w.heap.size w w' :=
  B.G.Take_calls A0 c0 l0 a1 r1 r2 r3 r4 r5 r6 r7 r8 r9 r10 r11 w hr0 hc0 h
def Tab (w : World) : Prop := B.TabAt w
theorem Tab.below {W W1 : World} (h : Tab W) (hb : Below W.heap.size W W1) : Tab W1 := B.TabAt.below h hb (B.TabAt.lt h)
def putO (a0 a1_0 a1_1 a1_2 a1_3 a1_4 a1_5 : Int) (a1_6 : Bool) (a1_7 : Int) : Option (List Int × Int × Int) := some (B.putF a0 a1_0 a1_1 a1_2 a1_3 a1_4 a1_5 a1_6 a1_7)
noncomputable def G.Put : Int → Int → Int → Int → Int → Int → Int → Bool → Int → Option (List Int × Int × Int) := Classical.choose (⟨putO, rfl⟩ : ∃ f : Int → Int → Int → Int → Int → Int → Int → Bool → Int → Option (List Int × Int × Int), f = putO)
theorem G.Put_eq : G.Put = putO := Classical.choose_spec (⟨putO, rfl⟩ : ∃ f : Int → Int → Int → Int → Int → Int → Int → Bool → Int → Option (List Int × Int × Int), f = putO)
theorem G.Put_calls (a0 : Int) (a1_0 : Int) (a1_1 : Int) (a1_2 : Int) (a1_3 : Int) (a1_4 : Int) (a1_5 : Int) (a1_6 : Bool) (a1_7 : Int) (r1 : List Int) (r2 : Int) (r3 : Int) (w : World) (hT_ : Tab w) (h : G.Put a0 a1_0 a1_1 a1_2 a1_3 a1_4 a1_5 a1_6 a1_7 = some (r1, r2, r3)) :
    Calls Tryd.prog 9 #[.int .i64 a0, .agg #[.int .u8 a1_0, .int .i64 a1_1, .int .i64 a1_2, .int .i64 a1_3, .int .i64 a1_4, .int .i64 a1_5, .bool a1_6, .int .i64 a1_7]] w fun e w' => ∃ v0_ : Value, e = .returned (.tuple #[v0_, .int .u8 r2, .int .i64 r3]) ∧ Kd.R (Kd.int .u8) 5 w' w.heap.size (fun _ => True) v0_ r1 ∧ Below w.heap.size w w' := by
  rw [G.Put_eq] at h
  have e := Option.some.inj h
  have p := B.put_calls a0 a1_0 a1_1 a1_2 a1_3 a1_4 a1_5 a1_6 a1_7 w (fun _ => hT_)
  rw [e] at p
  exact p
noncomputable def G.Wakes : Option Bool := B.l8_wakes.f
theorem G.Wakes_calls  (r : Bool) (w : World) (h : G.Wakes  = some r) :
    Calls Tryd.prog 8 #[] w fun e w' => e = .returned (.bool r) ∧ Below w.heap.size w w' :=
  B.l8_wakes.calls r w h
end Go.Proofs.YtppeidopijnnlaaDoor.C
namespace Go.Proofs.YtppeidopijnnlaaDoor.B
open Go.RowKit Go.Proofs.YtppeidopijnnlaaDoorW.PrintWords Go.Proofs.YtppeidopijnnlaaDoorW.PrintLast Go.Proofs.YtppeidopijnnlaaDoorW.PrintMore Go.RF Go.Deep Go.ChangeShapes Go.WideShapes Go.ChangeAt
set_option linter.unusedVariables false
section
variable {H : Type} {enc : TypeId × Value → H} {P : Program} {w : World} {base : Nat} {spare : Nat → Bool} {held : Bool}
theorem open_kint {t : TypeId} {k : IntKind} {fuel : Nat} {cs : List Value} {x : DataW H × List MemPlace} (he : P.underlying t = some (.int k)) (h : DataW.trod enc P w base spare held fuel t cs = some x) : ∃ y, (Kd.int k).K w y cs ∧ (Lit.int k y).wf = true := by
  obtain ⟨n, rfl, _, hw⟩ := DataW.trod_int he h
  exact ⟨n, rfl, hw⟩
theorem open_kslice {α : Type} [Inhabited α] (d : Kd α) (good : α → Prop) {t e : TypeId} {fuel : Nat} {cs : List Value} {x : DataW H × List MemPlace} (ht : P.underlying t = some (.slice e)) (hc : P.cellsOf e = d.sz)
    (hel : ∀ fuel cs x, DataW.trod enc P w base spare held fuel e cs = some x → ∃ y, d.K w y cs ∧ good y) (h : DataW.trod enc P w base spare held fuel t cs = some x) :
    ∃ (A : Option Addr) (c : Nat) (xs : List α), cs = [.slice A xs.length c] ∧ xs.length ≤ c ∧ d.C w A xs.length xs ∧ ∀ y ∈ xs, good y := by
  rcases open_slice ht h with ⟨rfl, _⟩ | ⟨a, len, cap, m, n, D, Pl, rfl, hb, hl, hm, hmm, rfl, hx⟩
  · exact ⟨none, 0, [], rfl, Nat.le_refl _, ⟨rfl, by simp, fun h => by simp at h⟩, fun y hy => by simp at hy⟩
  have hlm : len ≤ m := by rw [hmm]; split <;> omega
  obtain ⟨q, hq⟩ := choose_lt (α := α × List Value) (n := len) (p := fun i y => w.cells? base (a.add (i * P.cellsOf e)) (P.cellsOf e) = some y.2 ∧ d.K w y.1 y.2 ∧ good y.1) (fun i hi => by
    obtain ⟨cs', h1, h2⟩ := hx i (by omega)
    obtain ⟨y, h3, h4⟩ := hel _ _ _ h2
    exact ⟨(y, cs'), h1, h3, h4⟩)
  have hlen : ((List.range len).map fun i => (q i).1).length = len := by simp
  refine ⟨some a, cap, (List.range len).map fun i => (q i).1, by rw [hlen], by rw [hlen]; exact hl, ⟨rfl, by rw [hlen]; unfold maxLen at hm; omega, fun _ => ⟨a, rfl, fun j p hj => ?_⟩⟩, fun y hy => ?_⟩
  · obtain ⟨hjl, rfl⟩ := List.getElem?_eq_some_iff.1 hj
    rw [hlen] at hjl
    obtain ⟨h1, h2, h3⟩ := hq j hjl
    obtain ⟨_, hcl, hcell⟩ := World.cells?_some h1
    refine ⟨(q j).2, by rw [hcl, hc], by simpa using h2, fun i u hu => ?_⟩
    have hi := (List.getElem?_eq_some_iff.1 hu).1
    have e1 := hcell i (by omega)
    rw [Go.Deep.add_add, hc, hu] at e1
    exact e1
  · obtain ⟨i, hi, rfl⟩ := List.mem_map.1 hy
    exact (hq i (List.mem_range.1 hi)).2.2
end
theorem open_bytes {H : Type} {enc : TypeId × Value → H} {w : World} {base : Nat} {spare : Nat → Bool} {held : Bool} {v : Value} {d : DataW H} {ps : List MemPlace} (hv : ∃ a n c, v = .slice a n c) (h : DataW.Trod enc Tryd.prog w base spare held 24 v d ps) :
    ∃ (A : Option Addr) (c : Nat) (l : List Int), v = .slice A l.length c ∧ l.length ≤ c ∧ Kd.C (Kd.int .u8) w A l.length l ∧ ∀ y ∈ l, (Lit.int .u8 y).wf = true := by
  obtain ⟨a, n, c, rfl⟩ := hv
  obtain ⟨fuel, hf⟩ := h
  obtain ⟨A, c', l, hcs, hl, hC, hg⟩ := open_kslice (Kd.int .u8) (fun b => (Lit.int .u8 b).wf = true) Tryd.underlying24 (by kernel_rfl) (fun _ _ _ h => open_kint Tryd.underlying5 h) hf
  have e : Value.slice a n c = .slice A l.length c' := by
    simp [Value.cells] at hcs
    obtain ⟨rfl, rfl, rfl⟩ := hcs
    rfl
  exact ⟨A, c', l, e, hl, hC, hg⟩
end Go.Proofs.YtppeidopijnnlaaDoor.B
namespace Go.Proofs.YtppeidopijnnlaaDoor.C
open Go.RowKit Go.ChangeShapes Go.WideShapes Go.ChangeAt Go.Lib
set_option linter.unusedVariables false
theorem laid_read {P : Program} {w : World} : ∀ {l : List (String × DataW Unit)} {ps : List MemPlace}, DataW.LaidVars P w l ps → ∀ n d, (n, d) ∈ l →
    ∃ g t cs fuel p, P.globalNamed n = some g ∧ (P.globals[g]?).map (·.type) = some t ∧ w.var? P n = some cs ∧ DataW.trod (fun _ => ()) P w 0 (fun _ => true) false fuel t cs.toList = some (d, p)
  | [], _, _, _, _, hm => by cases hm
  | (n', d') :: r, ps, h, n, d, hm => by
    obtain ⟨g, t, cs, fuel, p, q, h1, h2, h3, h4, h5, _⟩ := h
    rcases List.mem_cons.1 hm with e | e
    · cases e
      exact ⟨g, t, cs, fuel, p, h1, h2, h3, h4⟩
    · exact laid_read h5 n d e
theorem tab_at {P : Program} {w : World} {l : List (String × DataW Unit)} {name : String} {k : IntKind} {zs : List Int} {g t e n : Nat} (hL : laidMet P l w) (hm : (name, (tabData k zs : DataW Unit)) ∈ l) (hg : P.globalNamed name = some g)
    (htt : (P.globals[g]?).map (·.type) = some t) (ht : P.underlying t = some (.array n e)) (he : P.underlying e = some (.int k)) (hce : P.cellsOf e = 1) (hct : P.cellsOf t = n) (i : Nat) (z : Int) (hz : zs[i]? = some z) :
    w.cell? ⟨g, i, none⟩ = some (.int k z) := by
  obtain ⟨ps, hv, -⟩ := hL
  obtain ⟨g', t', cs, fuel, p, h1, h2, h3, h4⟩ := laid_read hv _ _ hm
  obtain rfl : g' = g := Option.some.inj (h1.symm.trans hg)
  obtain rfl : t' = t := Option.some.inj (h2.symm.trans htt)
  have hcs := cells_of_tab ht he hce hct h4
  unfold World.var? at h3
  rw [hg] at h3
  simp only [Option.bind_some] at h3
  unfold World.cell?
  cases hh : w.heap[g']? with
  | none => rw [hh] at h3; simp at h3
  | some o =>
    rw [hh] at h3
    cases o with
    | cells c tt fr =>
      simp only [Option.some.injEq] at h3
      subst h3
      have : c[i]? = some (.int k z) := by
        have e1 : c.toList[i]? = some (.int k z) := by rw [hcs]; simp [hz]
        simpa using e1
      simp [this]
    | _ => simp at h3
theorem laid_of {l : List (String × DataW Unit)} {w : World} (hm : ("math/bits.deBruijn64tab", (Rows.laid_math_bits_deBruijn64tab : DataW Unit)) ∈ l) (hL : laidMet Tryd.prog l w) : Tab w := by
  have h : ∀ i z, ([0, 1, 56, 2, 57, 49, 28, 3, 61, 58, 42, 50, 38, 29, 17, 4, 62, 47, 59, 36, 45, 43, 51, 22, 53, 39, 33, 30, 24, 18, 12, 5, 63, 55, 48, 27, 60, 41, 37, 16, 46, 35, 44, 21, 52, 32, 23, 11, 54, 26, 40, 15, 34, 20, 31, 10, 25, 14, 19, 9, 13, 8, 7, 6] : List Int)[i]? = some z → w.cell? ⟨1, i, none⟩ = some (.int .u8 z) :=
    fun i z hz => tab_at hL hm (by kernel_rfl) (t := 70) (by kernel_rfl) (n := 64) (e := 5) (by kernel_rfl) (by kernel_rfl) (by kernel_rfl) (by kernel_rfl) i z hz
  exact ⟨h 0 _ rfl, h 1 _ rfl, h 3 _ rfl, h 7 _ rfl⟩
def GoodOp (k R base idx sc dp im : Int) : Prop := (Lit.int .u8 k).wf = true ∧ (Lit.int .i64 R).wf = true ∧ (Lit.int .i64 base).wf = true ∧ (Lit.int .i64 idx).wf = true ∧ (Lit.int .i64 sc).wf = true ∧ (Lit.int .i64 dp).wf = true ∧ (Lit.int .i64 im).wf = true
theorem st_operand {H : Type} {enc : TypeId × Value → H} {w : World} {base : Nat} {spare : Nat → Bool} {held : Bool} {v : Value} {d : DataW H} {ps : List MemPlace} (hv : ∃ cs, v = .agg cs ∧ cs.size = Tryd.prog.cellsOf 23) (h : DataW.Trod enc Tryd.prog w base spare held 23 v d ps) :
    ∃ k R b i s dp rip im, v = .agg #[.int .u8 k, .int .i64 R, .int .i64 b, .int .i64 i, .int .i64 s, .int .i64 dp, .bool rip, .int .i64 im] ∧ GoodOp k R b i s dp im := by
  obtain ⟨⟨cs⟩, rfl, hsz⟩ := hv
  have hsz' : cs.length = 8 := hsz
  obtain ⟨fuel, hf⟩ := h
  obtain ⟨xs, n, rfl, _, hcl, hxl, hF⟩ := DataW.trod_struct Tryd.underlying23 hf
  have hxl' : xs.length = 8 := hxl
  match cs, hsz', xs, hxl' with
  | [v0, v1, v2, v3, v4, v5, v6, v7], _, [y0, y1, y2, y3, y4, y5, y6, y7], _ =>
    have g0' : DataW.trod enc Tryd.prog w base spare held n 5 [v0] = some y0 := hF 0 _ rfl
    have g1' : DataW.trod enc Tryd.prog w base spare held n 3 [v1] = some y1 := hF 1 _ rfl
    have g2' : DataW.trod enc Tryd.prog w base spare held n 3 [v2] = some y2 := hF 2 _ rfl
    have g3' : DataW.trod enc Tryd.prog w base spare held n 3 [v3] = some y3 := hF 3 _ rfl
    have g4' : DataW.trod enc Tryd.prog w base spare held n 3 [v4] = some y4 := hF 4 _ rfl
    have g5' : DataW.trod enc Tryd.prog w base spare held n 2 [v5] = some y5 := hF 5 _ rfl
    have g6' : DataW.trod enc Tryd.prog w base spare held n 4 [v6] = some y6 := hF 6 _ rfl
    have g7' : DataW.trod enc Tryd.prog w base spare held n 2 [v7] = some y7 := hF 7 _ rfl
    obtain ⟨a0, h0, _, w0⟩ := DataW.trod_int Tryd.underlying5 g0'
    obtain ⟨a1, h1, _, w1⟩ := DataW.trod_int Tryd.underlying3 g1'
    obtain ⟨a2, h2, _, w2⟩ := DataW.trod_int Tryd.underlying3 g2'
    obtain ⟨a3, h3, _, w3⟩ := DataW.trod_int Tryd.underlying3 g3'
    obtain ⟨a4, h4, _, w4⟩ := DataW.trod_int Tryd.underlying3 g4'
    obtain ⟨a5, h5, _, w5⟩ := DataW.trod_int Tryd.underlying2 g5'
    obtain ⟨a6, h6, _⟩ := DataW.trod_bool Tryd.underlying4 g6'
    obtain ⟨a7, h7, _, w7⟩ := DataW.trod_int Tryd.underlying2 g7'
    injection h0 with h0; injection h1 with h1; injection h2 with h2; injection h3 with h3; injection h4 with h4; injection h5 with h5; injection h6 with h6; injection h7 with h7
    subst h0; subst h1; subst h2; subst h3; subst h4; subst h5; subst h6; subst h7
    exact ⟨a0, a1, a2, a3, a4, a5, a6, a7, rfl, w0, w1, w2, w3, w4, w5, w7⟩
theorem open_bytes {H : Type} {enc : TypeId × Value → H} {w : World} {base : Nat} {spare : Nat → Bool} {held : Bool} {v : Value} {d : DataW H} {ps : List MemPlace} (hv : ∃ a n c, v = .slice a n c) (h : DataW.Trod enc Tryd.prog w base spare held 24 v d ps) :
    ∃ (A : Option Addr) (c : Nat) (l : List Int), v = .slice A l.length c ∧ l.length ≤ c ∧ YtppeidopijnnlaaDoorW.PrintWords.Kd.C (YtppeidopijnnlaaDoorW.PrintWords.Kd.int .u8) w A l.length l ∧ ∀ y ∈ l, (Lit.int .u8 y).wf = true := B.open_bytes hv h
end Go.Proofs.YtppeidopijnnlaaDoor.C
namespace Go.Proofs.YtppeidopijnnlaaDoor.C
open Go.RowKit Go.Proofs.YtppeidopijnnlaaDoorW.PrintWords Go.Proofs.YtppeidopijnnlaaDoorW.PrintLast Go.Proofs.YtppeidopijnnlaaDoorW.PrintMore
attribute [local go_sem] max2_int min2_int max_two min_two max_three min_three max_four min_four   -- for this text's walks alone
set_option linter.unusedVariables false
set_option linter.unusedSimpArgs false
def errW : Option Int → Value
  | none => .nilIface
  | some c => .iface 0 (.int .i64 c)
theorem errW_none : errW none = .nilIface := rfl
theorem errW_some (c : Int) : errW (some c) = .iface 0 (.int .i64 c) := rfl
theorem info5 : (Tryd.prog.info? 5).map (fun i => (i.zero, i.size, i.bytes)) = some (some (.int .u8 0), 1, 1) := by kernel_rfl
structure S23 where
  f0 : Int
  f1 : Int
  f2 : Int
  f3 : Int
  f4 : Int
  f5 : Int
  f6 : Bool
  f7 : Int
end Go.Proofs.YtppeidopijnnlaaDoor.C
namespace Go.Proofs.YtppeidopijnnlaaDoor.C
open Go.RowKit Go.Proofs.YtppeidopijnnlaaDoorW.PrintWords Go.Proofs.YtppeidopijnnlaaDoorW.PrintLast Go.Proofs.YtppeidopijnnlaaDoorW.PrintMore
attribute [local go_sem] max2_int min2_int max_two min_two max_three min_three max_four min_four   -- for this text's walks alone
set_option linter.unusedVariables false
set_option linter.unusedSimpArgs false
theorem eqA23 (d : Nat) (w : World) (x0 y0 : Int) (x1 y1 : Int) (x2 y2 : Int) (x3 y3 : Int) (x4 y4 : Int) (x5 y5 : Int) (x6 y6 : Bool) (x7 y7 : Int) :
    (Op.equalIn (d + 2) 23 (.agg #[.int .u8 x0, .int .i64 x1, .int .i64 x2, .int .i64 x3, .int .i64 x4, .int .i64 x5, .bool x6, .int .i64 x7]) (.agg #[.int .u8 y0, .int .i64 y1, .int .i64 y2, .int .i64 y3, .int .i64 y4, .int .i64 y5, .bool y6, .int .i64 y7])).run Tryd.prog w = .ok (x0 == y0 && (x1 == y1 && (x2 == y2 && (x3 == y3 && (x4 == y4 && (x5 == y5 && (x6 == y6 && (x7 == y7)))))))) w := by
  refine eqA_of Tryd.underlying23 (by kernel_rfl) ?_
  refine eqf_cons (by rfl) (by go_simp; rfl) (by go_simp; rfl) (by go_simp) ?_
  refine eqf_cons (by rfl) (by go_simp; rfl) (by go_simp; rfl) (by go_simp) ?_
  refine eqf_cons (by rfl) (by go_simp; rfl) (by go_simp; rfl) (by go_simp) ?_
  refine eqf_cons (by rfl) (by go_simp; rfl) (by go_simp; rfl) (by go_simp) ?_
  refine eqf_cons (by rfl) (by go_simp; rfl) (by go_simp; rfl) (by go_simp) ?_
  refine eqf_cons (by rfl) (by go_simp; rfl) (by go_simp; rfl) (by go_simp) ?_
  refine eqf_cons (by rfl) (by go_simp; rfl) (by go_simp; rfl) (by go_simp) ?_
  exact eqf_last (by rfl) (by go_simp; rfl) (by go_simp; rfl) (by go_simp)
end Go.Proofs.YtppeidopijnnlaaDoor.C
namespace Go.Proofs.YtppeidopijnnlaaDoor.C
open Go.RowKit Go.Proofs.YtppeidopijnnlaaDoorW.PrintWords Go.Proofs.YtppeidopijnnlaaDoorW.PrintLast Go.Proofs.YtppeidopijnnlaaDoorW.PrintMore
attribute [local go_sem] max2_int min2_int max_two min_two max_three min_three max_four min_four   -- for this text's walks alone
set_option linter.unusedVariables false
set_option linter.unusedSimpArgs false
noncomputable def operand_low.f (a0 : Int) : Option (Int) := some ((Go.bits .and .i64 a0 7) % 256)
set_option maxHeartbeats 8000000 in
set_option maxRecDepth 100000 in
theorem operand_low.calls (a0 : Int) (r : Int) (w : World) (h : operand_low.f a0 = some r) :
    Calls Tryd.prog 23 #[.int .i64 a0] w fun e w' => e = .returned (.int .u8 r) ∧ Drawn0 w w' := by
  have H : (some ((Go.bits .and .i64 a0 7) % 256)) = some r := h
  clear h
  obtain rfl := Option.some.inj H
  go_enter Tryd.func23, Tryd.ntmps23
  go_wp2
  go_ret
  exact ⟨by first | rfl | (simp; done) | (simp [*]; done), by repeat (first | exact Drawn0.refl _ | apply Drawn0.step)⟩
noncomputable def operand_high.f (a0 : Int) : Option (Int) := some ((Go.bits .and .i64 (a0 / 8) 1) % 256)
set_option maxHeartbeats 8000000 in
set_option maxRecDepth 100000 in
theorem operand_high.calls (a0 : Int) (r : Int) (w : World) (h : operand_high.f a0 = some r) :
    Calls Tryd.prog 24 #[.int .i64 a0] w fun e w' => e = .returned (.int .u8 r) ∧ Drawn0 w w' := by
  have H : (some ((Go.bits .and .i64 (a0 / 8) 1) % 256)) = some r := h
  clear h
  obtain rfl := Option.some.inj H
  go_enter Tryd.func24, Tryd.ntmps24
  go_wp2
  go_ret
  exact ⟨by first | rfl | (simp; done) | (simp [*]; done), by repeat (first | exact Drawn0.refl _ | apply Drawn0.step)⟩
noncomputable def operand_form.j0 : Nat → Bool → Int → Int → Int → Int → Int → Int → Bool → Int → Option (Int × Int)
  | 0, _, _, _, _, _, _, _, _, _ => none
  | k + 1, x8, x114000, x114001, x114002, x114003, x114004, x114005, x114006, x114007 => if x8 = true then (some (0, 0)) else (if (wrap64 (IntKind.i8.wrap (x114005))) = x114005 then (some (1, 1)) else (some (2, 4)))
noncomputable def operand_form.f (k : Nat) (a0_0 : Int) (a0_1 : Int) (a0_2 : Int) (a0_3 : Int) (a0_4 : Int) (a0_5 : Int) (a0_6 : Bool) (a0_7 : Int) : Option (Int × Int) := if a0_2 < 0 then (some (0, 4)) else (if a0_5 = 0 then ((operand_low.f a0_2).bind fun t114 => (operand_form.j0 k (t114 != 5) a0_0 a0_1 a0_2 a0_3 a0_4 a0_5 a0_6 a0_7)) else (operand_form.j0 k false a0_0 a0_1 a0_2 a0_3 a0_4 a0_5 a0_6 a0_7))
set_option maxHeartbeats 8000000 in
set_option maxRecDepth 100000 in
theorem operand_form.calls (k : Nat) (a0_0 : Int) (a0_1 : Int) (a0_2 : Int) (a0_3 : Int) (a0_4 : Int) (a0_5 : Int) (a0_6 : Bool) (a0_7 : Int) (r1 : Int) (r2 : Int) (w : World) (h : operand_form.f k a0_0 a0_1 a0_2 a0_3 a0_4 a0_5 a0_6 a0_7 = some (r1, r2)) :
    Calls Tryd.prog 26 #[.agg #[.int .u8 a0_0, .int .i64 a0_1, .int .i64 a0_2, .int .i64 a0_3, .int .i64 a0_4, .int .i64 a0_5, .bool a0_6, .int .i64 a0_7]] w fun e w' => e = .returned (.tuple #[.int .u8 r1, .int .i64 r2]) ∧ Below w.heap.size w w' := by
  have hu23 := Tryd.underlying23
  have HB := Aside0.mk (Below.refl w.heap.size w)
  have H : (if a0_2 < 0 then (some (0, 4)) else (if a0_5 = 0 then ((operand_low.f a0_2).bind fun t114 => (operand_form.j0 k (t114 != 5) a0_0 a0_1 a0_2 a0_3 a0_4 a0_5 a0_6 a0_7)) else (operand_form.j0 k false a0_0 a0_1 a0_2 a0_3 a0_4 a0_5 a0_6 a0_7))) = some (r1, r2) := h
  clear h
  by_cases c2 : a0_2 < 0
  · rw [if_pos c2] at H
    have c2b0 : decide (a0_2 < 0) = true := decide_eq_true c2
    clear c2
    simp only [Option.some.injEq, Prod.mk.injEq] at H
    obtain ⟨rfl, rfl⟩ := H
    go_enter Tryd.func26, Tryd.ntmps26
    go_wp2_with (first | ((with_reducible refine gate_dst (N := 1) rfl ?_); refine box_event ?hg (N := 1) ?hd (cs := #[.int .u8 a0_0, .int .i64 a0_1, .int .i64 a0_2, .int .i64 a0_3, .int .i64 a0_4, .int .i64 a0_5, .bool a0_6, .int .i64 a0_7]) (t := 23) ?hr ?_; (case hd => rfl); (case hg => rfl); (case hr => first | (go_simp; done) | (go_simp; rfl)); intro gb113 hg w3 hbox hb; have n0_ := Aside0.mk (below_step (by repeat (first | (with_reducible first | exact HB.out | apply bX_ | apply bW_ | apply bY_) | exact HB.out)) hb); have n1_ := Aside0.mk (hbox); have n2_ := Aside0.mk ((by rw [hg]; exact (below_size (by repeat (first | (with_reducible first | exact HB.out | apply bX_ | apply bW_ | apply bY_) | exact HB.out))) : w.heap.size ≤ gb113)); have n3_ := Aside0.mk ((by rw [hg]; exact (below_size (by repeat (first | (with_reducible first | exact HB.out | apply bX_ | apply bW_ | apply bY_) | exact HB.out))) : w.heap.size ≤ gb113)); clear HB; have HB := n0_; have BK113 := n1_; have GW113 := n2_; have GE113 := n3_; clear n0_ n1_ n2_ n3_; clear hb hbox hg; have hcz4_0 : w3.cell? ⟨gb113, 0, none⟩ = some (.int .u8 a0_0) := (bC_ BK113.out 0).trans rfl; have hcz4_1 : w3.cell? ⟨gb113, 1, none⟩ = some (.int .i64 a0_1) := (bC_ BK113.out 1).trans rfl; have hcz4_2 : w3.cell? ⟨gb113, 2, none⟩ = some (.int .i64 a0_2) := (bC_ BK113.out 2).trans rfl; have hcz4_3 : w3.cell? ⟨gb113, 3, none⟩ = some (.int .i64 a0_3) := (bC_ BK113.out 3).trans rfl; have hcz4_4 : w3.cell? ⟨gb113, 4, none⟩ = some (.int .i64 a0_4) := (bC_ BK113.out 4).trans rfl; have hcz4_5 : w3.cell? ⟨gb113, 5, none⟩ = some (.int .i64 a0_5) := (bC_ BK113.out 5).trans rfl; have hcz4_6 : w3.cell? ⟨gb113, 6, none⟩ = some (.bool a0_6) := (bC_ BK113.out 6).trans rfl; have hcz4_7 : w3.cell? ⟨gb113, 7, none⟩ = some (.int .i64 a0_7) := (bC_ BK113.out 7).trans rfl; have hfz4_0 := bF_ BK113.out 0; have hfz4_1 := bF_ BK113.out 1; have hfz4_2 := bF_ BK113.out 2; have hfz4_3 := bF_ BK113.out 3; have hfz4_4 := bF_ BK113.out 4; have hfz4_5 := bF_ BK113.out 5; have hfz4_6 := bF_ BK113.out 6; have hfz4_7 := bF_ BK113.out 7))
    go_ret2
    exact ⟨by first | rfl | (simp [errW_none, errW_some] <;> rfl) | (simp [*, errW_none, errW_some] <;> rfl), by repeat (first | (with_reducible first | exact HB.out | apply bX_ | apply bW_ | apply bY_ | refine bS_ ?_ GE113.out) | exact HB.out)⟩
  · rw [if_neg c2] at H
    have c2b0 : decide (a0_2 < 0) = false := decide_eq_false c2
    clear c2
    have HC5 := Aside0.mk H
    clear H
    go_enter Tryd.func26, Tryd.ntmps26
    go_upto_region 3 with (first | ((with_reducible refine gate_dst (N := 1) rfl ?_); refine box_event ?hg (N := 1) ?hd (cs := #[.int .u8 a0_0, .int .i64 a0_1, .int .i64 a0_2, .int .i64 a0_3, .int .i64 a0_4, .int .i64 a0_5, .bool a0_6, .int .i64 a0_7]) (t := 23) ?hr ?_; (case hd => rfl); (case hg => rfl); (case hr => first | (go_simp; done) | (go_simp; rfl)); intro gb113 hg w6 hbox hb; have n0_ := Aside0.mk (below_step (by repeat (first | (with_reducible first | exact HB.out | apply bX_ | apply bW_ | apply bY_) | exact HB.out)) hb); have n1_ := Aside0.mk (hbox); have n2_ := Aside0.mk ((by rw [hg]; exact (below_size (by repeat (first | (with_reducible first | exact HB.out | apply bX_ | apply bW_ | apply bY_) | exact HB.out))) : w.heap.size ≤ gb113)); have n3_ := Aside0.mk ((by rw [hg]; exact (below_size (by repeat (first | (with_reducible first | exact HB.out | apply bX_ | apply bW_ | apply bY_) | exact HB.out))) : w.heap.size ≤ gb113)); clear HB; have HB := n0_; have BK113 := n1_; have GW113 := n2_; have GE113 := n3_; clear n0_ n1_ n2_ n3_; clear hb hbox hg; have hcz7_0 : w6.cell? ⟨gb113, 0, none⟩ = some (.int .u8 a0_0) := (bC_ BK113.out 0).trans rfl; have hcz7_1 : w6.cell? ⟨gb113, 1, none⟩ = some (.int .i64 a0_1) := (bC_ BK113.out 1).trans rfl; have hcz7_2 : w6.cell? ⟨gb113, 2, none⟩ = some (.int .i64 a0_2) := (bC_ BK113.out 2).trans rfl; have hcz7_3 : w6.cell? ⟨gb113, 3, none⟩ = some (.int .i64 a0_3) := (bC_ BK113.out 3).trans rfl; have hcz7_4 : w6.cell? ⟨gb113, 4, none⟩ = some (.int .i64 a0_4) := (bC_ BK113.out 4).trans rfl; have hcz7_5 : w6.cell? ⟨gb113, 5, none⟩ = some (.int .i64 a0_5) := (bC_ BK113.out 5).trans rfl; have hcz7_6 : w6.cell? ⟨gb113, 6, none⟩ = some (.bool a0_6) := (bC_ BK113.out 6).trans rfl; have hcz7_7 : w6.cell? ⟨gb113, 7, none⟩ = some (.int .i64 a0_7) := (bC_ BK113.out 7).trans rfl; have hfz7_0 := bF_ BK113.out 0; have hfz7_1 := bF_ BK113.out 1; have hfz7_2 := bF_ BK113.out 2; have hfz7_3 := bF_ BK113.out 3; have hfz7_4 := bF_ BK113.out 4; have hfz7_5 := bF_ BK113.out 5; have hfz7_6 := bF_ BK113.out 6; have hfz7_7 := bF_ BK113.out 7))
    (try simp only [Act.put, List.setIfInBounds_toArray, List.set_cons_zero, List.set_cons_succ])
    go_cut [8] (fun v8 wc => ∃ (kq : Nat) (x8_4 : Bool), v8 = .bool x8_4 ∧ Aside0 (operand_form.j0 kq x8_4 a0_0 a0_1 a0_2 a0_3 a0_4 a0_5 a0_6 a0_7 = some (r1, r2)) ∧ Aside0 (kq ≤ k) ∧ Aside0 (wc.heap[gb113]? = some (.cells #[.int .u8 a0_0, .int .i64 a0_1, .int .i64 a0_2, .int .i64 a0_3, .int .i64 a0_4, .int .i64 a0_5, .bool a0_6, .int .i64 a0_7] 23 (0, 0))) ∧ Aside0 (Below w.heap.size w wc))
    case first =>
      have H := HC5.out
      clear HC5
      by_cases c8 : a0_5 = 0
      · rw [if_pos c8] at H
        have c8b0 : (a0_5 == 0) = true := beq_iff_eq.mpr c8
        have c8b1 : (a0_5 != 0) = false := bne_eq_false_iff_eq.mpr c8
        clear c8
        (first | rw [c8b0] | (simp only [i64_w, i32_w]; rw [c8b0]) | skip)
        replace H := Option.bind_eq_some_iff.mp H
        obtain ⟨t114, A90, H⟩ := H
        replace H : (operand_form.j0 k (t114 != 5) a0_0 a0_1 a0_2 a0_3 a0_4 a0_5 a0_6 a0_7) = some (r1, r2) := H
        have A9 := Aside0.mk A90
        clear A90
        have H' := Aside0.mk H
        clear H
        have hcz10_0 : w6.cell? ⟨gb113, 0, none⟩ = some (.int .u8 a0_0) := (bC_ BK113.out 0).trans rfl
        have hcz10_1 : w6.cell? ⟨gb113, 1, none⟩ = some (.int .i64 a0_1) := (bC_ BK113.out 1).trans rfl
        have hcz10_2 : w6.cell? ⟨gb113, 2, none⟩ = some (.int .i64 a0_2) := (bC_ BK113.out 2).trans rfl
        have hcz10_3 : w6.cell? ⟨gb113, 3, none⟩ = some (.int .i64 a0_3) := (bC_ BK113.out 3).trans rfl
        have hcz10_4 : w6.cell? ⟨gb113, 4, none⟩ = some (.int .i64 a0_4) := (bC_ BK113.out 4).trans rfl
        have hcz10_5 : w6.cell? ⟨gb113, 5, none⟩ = some (.int .i64 a0_5) := (bC_ BK113.out 5).trans rfl
        have hcz10_6 : w6.cell? ⟨gb113, 6, none⟩ = some (.bool a0_6) := (bC_ BK113.out 6).trans rfl
        have hcz10_7 : w6.cell? ⟨gb113, 7, none⟩ = some (.int .i64 a0_7) := (bC_ BK113.out 7).trans rfl
        have hfz10_0 := bF_ BK113.out 0
        have hfz10_1 := bF_ BK113.out 1
        have hfz10_2 := bF_ BK113.out 2
        have hfz10_3 := bF_ BK113.out 3
        have hfz10_4 := bF_ BK113.out 4
        have hfz10_5 := bF_ BK113.out 5
        have hfz10_6 := bF_ BK113.out 6
        have hfz10_7 := bF_ BK113.out 7
        go_wp2_with (first | (go_at_call 23; (with_reducible refine (operand_low.calls a0_2 t114 _ A9.out).mono ?_); rintro e w' ⟨rfl, ⟨nd, rfl⟩⟩))
        go_meet
        case rel => exact ⟨_, ((t114 != 5)), (by first | rfl | (simp; done) | (simp [*]; done)), H', ⟨by first | omega | exact Nat.le_refl _⟩, ⟨by (with_reducible repeat (first | refine bN_ ?_ _ | refine bD_ ?_ | refine bA_ ?_ _)); exact BK113.out⟩, ⟨by repeat (first | (with_reducible first | exact HB.out | apply bX_ | apply bW_ | apply bY_ | refine bS_ ?_ GE113.out) | exact HB.out)⟩⟩
      · rw [if_neg c8] at H
        have c8b0 : (a0_5 == 0) = false := beq_eq_false_iff_ne.mpr c8
        have c8b1 : (a0_5 != 0) = true := bne_iff_ne.mpr c8
        (first | rw [c8b0] | (simp only [i64_w, i32_w]; rw [c8b0]) | skip)
        have H' := Aside0.mk H
        clear H
        have hcz11_0 : w6.cell? ⟨gb113, 0, none⟩ = some (.int .u8 a0_0) := (bC_ BK113.out 0).trans rfl
        have hcz11_1 : w6.cell? ⟨gb113, 1, none⟩ = some (.int .i64 a0_1) := (bC_ BK113.out 1).trans rfl
        have hcz11_2 : w6.cell? ⟨gb113, 2, none⟩ = some (.int .i64 a0_2) := (bC_ BK113.out 2).trans rfl
        have hcz11_3 : w6.cell? ⟨gb113, 3, none⟩ = some (.int .i64 a0_3) := (bC_ BK113.out 3).trans rfl
        have hcz11_4 : w6.cell? ⟨gb113, 4, none⟩ = some (.int .i64 a0_4) := (bC_ BK113.out 4).trans rfl
        have hcz11_5 : w6.cell? ⟨gb113, 5, none⟩ = some (.int .i64 a0_5) := (bC_ BK113.out 5).trans rfl
        have hcz11_6 : w6.cell? ⟨gb113, 6, none⟩ = some (.bool a0_6) := (bC_ BK113.out 6).trans rfl
        have hcz11_7 : w6.cell? ⟨gb113, 7, none⟩ = some (.int .i64 a0_7) := (bC_ BK113.out 7).trans rfl
        have hfz11_0 := bF_ BK113.out 0
        have hfz11_1 := bF_ BK113.out 1
        have hfz11_2 := bF_ BK113.out 2
        have hfz11_3 := bF_ BK113.out 3
        have hfz11_4 := bF_ BK113.out 4
        have hfz11_5 := bF_ BK113.out 5
        have hfz11_6 := bF_ BK113.out 6
        have hfz11_7 := bF_ BK113.out 7
        go_wp2
        go_meet
        case rel => exact ⟨_, (false), (by first | rfl | (simp; done) | (simp [*]; done)), H', ⟨by first | omega | exact Nat.le_refl _⟩, ⟨by (with_reducible repeat (first | refine bN_ ?_ _ | refine bD_ ?_ | refine bA_ ?_ _)); exact BK113.out⟩, ⟨by repeat (first | (with_reducible first | exact HB.out | apply bX_ | apply bW_ | apply bY_ | refine bS_ ?_ GE113.out) | exact HB.out)⟩⟩
    case rest =>
      clear HC5
      (try clear c2); (try clear c2b0); (try clear p2); (try clear c8); (try clear c8b0); (try clear c8b1)
      obtain ⟨kq, x8_4, rfl, HA, HJ4, BK113, HB⟩ := hcut
      cases kq with
      | zero => exact absurd HA.out (by simp [operand_form.j0])
      | succ kj4 =>
        have H := HA.out
        clear HA
        simp only [operand_form.j0] at H
        by_cases c12 : x8_4 = true
        · subst c12
          have H1 : (some (0, 0)) = some (r1, r2) := by rw [if_pos rfl] at H; exact H
          clear H
          have H := H1
          clear H1
          simp only [Option.some.injEq, Prod.mk.injEq] at H
          obtain ⟨rfl, rfl⟩ := H
          go_wp2
          go_ret2
          exact ⟨by first | rfl | (simp [errW_none, errW_some] <;> rfl) | (simp [*, errW_none, errW_some] <;> rfl), by repeat (first | (with_reducible first | exact HB.out | apply bX_ | apply bW_ | apply bY_ | refine bS_ ?_ GE113.out) | exact HB.out)⟩
        · replace c12 := Bool.eq_false_iff.mpr c12
          subst c12
          have H1 : (if (wrap64 (IntKind.i8.wrap (a0_5))) = a0_5 then (some (1, 1)) else (some (2, 4))) = some (r1, r2) := by rw [if_neg (show ¬ (false = true) by decide)] at H; exact H
          clear H
          have H := H1
          clear H1
          by_cases c13 : (wrap64 (IntKind.i8.wrap (a0_5))) = a0_5
          · rw [if_pos c13] at H
            have c13b0 : ((wrap64 (IntKind.i8.wrap (a0_5))) == a0_5) = true := beq_iff_eq.mpr c13
            have c13b1 : ((wrap64 (IntKind.i8.wrap (a0_5))) != a0_5) = false := bne_eq_false_iff_eq.mpr c13
            clear c13
            simp only [Option.some.injEq, Prod.mk.injEq] at H
            obtain ⟨rfl, rfl⟩ := H
            have hcz14_0 : wc.cell? ⟨gb113, 0, none⟩ = some (.int .u8 a0_0) := (bC_ BK113.out 0).trans rfl
            have hcz14_1 : wc.cell? ⟨gb113, 1, none⟩ = some (.int .i64 a0_1) := (bC_ BK113.out 1).trans rfl
            have hcz14_2 : wc.cell? ⟨gb113, 2, none⟩ = some (.int .i64 a0_2) := (bC_ BK113.out 2).trans rfl
            have hcz14_3 : wc.cell? ⟨gb113, 3, none⟩ = some (.int .i64 a0_3) := (bC_ BK113.out 3).trans rfl
            have hcz14_4 : wc.cell? ⟨gb113, 4, none⟩ = some (.int .i64 a0_4) := (bC_ BK113.out 4).trans rfl
            have hcz14_5 : wc.cell? ⟨gb113, 5, none⟩ = some (.int .i64 a0_5) := (bC_ BK113.out 5).trans rfl
            have hcz14_6 : wc.cell? ⟨gb113, 6, none⟩ = some (.bool a0_6) := (bC_ BK113.out 6).trans rfl
            have hcz14_7 : wc.cell? ⟨gb113, 7, none⟩ = some (.int .i64 a0_7) := (bC_ BK113.out 7).trans rfl
            have hfz14_0 := bF_ BK113.out 0
            have hfz14_1 := bF_ BK113.out 1
            have hfz14_2 := bF_ BK113.out 2
            have hfz14_3 := bF_ BK113.out 3
            have hfz14_4 := bF_ BK113.out 4
            have hfz14_5 := bF_ BK113.out 5
            have hfz14_6 := bF_ BK113.out 6
            have hfz14_7 := bF_ BK113.out 7
            go_wp2
            go_ret2
            exact ⟨by first | rfl | (simp [errW_none, errW_some] <;> rfl) | (simp [*, errW_none, errW_some] <;> rfl), by repeat (first | (with_reducible first | exact HB.out | apply bX_ | apply bW_ | apply bY_ | refine bS_ ?_ GE113.out) | exact HB.out)⟩
          · rw [if_neg c13] at H
            have c13b0 : ((wrap64 (IntKind.i8.wrap (a0_5))) == a0_5) = false := beq_eq_false_iff_ne.mpr c13
            have c13b1 : ((wrap64 (IntKind.i8.wrap (a0_5))) != a0_5) = true := bne_iff_ne.mpr c13
            simp only [Option.some.injEq, Prod.mk.injEq] at H
            obtain ⟨rfl, rfl⟩ := H
            have hcz15_0 : wc.cell? ⟨gb113, 0, none⟩ = some (.int .u8 a0_0) := (bC_ BK113.out 0).trans rfl
            have hcz15_1 : wc.cell? ⟨gb113, 1, none⟩ = some (.int .i64 a0_1) := (bC_ BK113.out 1).trans rfl
            have hcz15_2 : wc.cell? ⟨gb113, 2, none⟩ = some (.int .i64 a0_2) := (bC_ BK113.out 2).trans rfl
            have hcz15_3 : wc.cell? ⟨gb113, 3, none⟩ = some (.int .i64 a0_3) := (bC_ BK113.out 3).trans rfl
            have hcz15_4 : wc.cell? ⟨gb113, 4, none⟩ = some (.int .i64 a0_4) := (bC_ BK113.out 4).trans rfl
            have hcz15_5 : wc.cell? ⟨gb113, 5, none⟩ = some (.int .i64 a0_5) := (bC_ BK113.out 5).trans rfl
            have hcz15_6 : wc.cell? ⟨gb113, 6, none⟩ = some (.bool a0_6) := (bC_ BK113.out 6).trans rfl
            have hcz15_7 : wc.cell? ⟨gb113, 7, none⟩ = some (.int .i64 a0_7) := (bC_ BK113.out 7).trans rfl
            have hfz15_0 := bF_ BK113.out 0
            have hfz15_1 := bF_ BK113.out 1
            have hfz15_2 := bF_ BK113.out 2
            have hfz15_3 := bF_ BK113.out 3
            have hfz15_4 := bF_ BK113.out 4
            have hfz15_5 := bF_ BK113.out 5
            have hfz15_6 := bF_ BK113.out 6
            have hfz15_7 := bF_ BK113.out 7
            go_wp2
            go_ret2
            exact ⟨by first | rfl | (simp [errW_none, errW_some] <;> rfl) | (simp [*, errW_none, errW_some] <;> rfl), by repeat (first | (with_reducible first | exact HB.out | apply bX_ | apply bW_ | apply bY_ | refine bS_ ?_ GE113.out) | exact HB.out)⟩
noncomputable def operand_Put.f (a0 : Int) (a1_0 : Int) (a1_1 : Int) (a1_2 : Int) (a1_3 : Int) (a1_4 : Int) (a1_5 : Int) (a1_6 : Bool) (a1_7 : Int) : Option (List Int × Int × Int) := G.Put a0 a1_0 a1_1 a1_2 a1_3 a1_4 a1_5 a1_6 a1_7
theorem operand_Put.calls (a0 : Int) (a1_0 : Int) (a1_1 : Int) (a1_2 : Int) (a1_3 : Int) (a1_4 : Int) (a1_5 : Int) (a1_6 : Bool) (a1_7 : Int) (r1 : List Int) (r2 : Int) (r3 : Int) (w : World) (hT_ : Tab w) (h : operand_Put.f a0 a1_0 a1_1 a1_2 a1_3 a1_4 a1_5 a1_6 a1_7 = some (r1, r2, r3)) :
    Calls Tryd.prog 9 #[.int .i64 a0, .agg #[.int .u8 a1_0, .int .i64 a1_1, .int .i64 a1_2, .int .i64 a1_3, .int .i64 a1_4, .int .i64 a1_5, .bool a1_6, .int .i64 a1_7]] w fun e w' => ∃ v0_ : Value, e = .returned (.tuple #[v0_, .int .u8 r2, .int .i64 r3]) ∧ Kd.R (Kd.int .u8) 5 w' w.heap.size (fun _ => True) v0_ r1 ∧ Below w.heap.size w w' :=
  G.Put_calls a0 a1_0 a1_1 a1_2 a1_3 a1_4 a1_5 a1_6 a1_7 r1 r2 r3 w hT_ h
noncomputable def operand_Mem.f (a0 : Int) (a1 : Int) : Option (Int × Int × Int × Int × Int × Int × Bool × Int) := some (2, 0, mx a0 (-1), (-1), 1, a1, false, 0)
set_option maxHeartbeats 8000000 in
set_option maxRecDepth 100000 in
theorem operand_Mem.calls (a0 : Int) (a1 : Int) (r1 : Int) (r2 : Int) (r3 : Int) (r4 : Int) (r5 : Int) (r6 : Int) (r7 : Bool) (r8 : Int) (w : World) (h : operand_Mem.f a0 a1 = some (r1, r2, r3, r4, r5, r6, r7, r8)) :
    Calls Tryd.prog 21 #[.int .i64 a0, .int .i64 a1] w fun e w' => e = .returned (.agg #[.int .u8 r1, .int .i64 r2, .int .i64 r3, .int .i64 r4, .int .i64 r5, .int .i64 r6, .bool r7, .int .i64 r8]) ∧ Below w.heap.size w w' := by
  have hu23 := Tryd.underlying23
  have HB := Aside0.mk (Below.refl w.heap.size w)
  have H : (some (2, 0, mx a0 (-1), (-1), 1, a1, false, 0)) = some (r1, r2, r3, r4, r5, r6, r7, r8) := h
  clear h
  obtain ⟨ji3, hji3⟩ : ∃ j_ : Int, (mx a0 (-1)) = j_ := ⟨_, rfl⟩
  replace H : (some (2, 0, ji3, (-1), 1, a1, false, 0)) = some (r1, r2, r3, r4, r5, r6, r7, r8) := by first | (rw [hji3] at H; exact H) | (simp only [hji3] at H ⊢; exact H)
  have hji3_ : (if a0 < (-1) then (-1) else a0) = ji3 := hji3
  simp only [Option.some.injEq, Prod.mk.injEq] at H
  obtain ⟨rfl, rfl, rfl, rfl, rfl, rfl, rfl, rfl⟩ := H
  go_enter Tryd.func21, Tryd.ntmps21
  go_wp2_with (first | ((with_reducible refine gate_dst (N := 4) rfl ?_); refine box_event ?hg (N := 4) ?hd (cs := #[.int .u8 0, .int .i64 0, .int .i64 0, .int .i64 0, .int .i64 0, .int .i64 0, .bool false, .int .i64 0]) (t := 23) ?hr ?_; (case hd => rfl); (case hg => rfl); (case hr => first | (go_simp; done) | (go_simp; rfl)); intro gb115 hg w4 hbox hb; have n0_ := Aside0.mk (below_step (by repeat (first | (with_reducible first | exact HB.out | apply bX_ | apply bW_ | apply bY_) | exact HB.out)) hb); have n1_ := Aside0.mk (hbox); have n2_ := Aside0.mk ((by rw [hg]; exact (below_size (by repeat (first | (with_reducible first | exact HB.out | apply bX_ | apply bW_ | apply bY_) | exact HB.out))) : w.heap.size ≤ gb115)); have n3_ := Aside0.mk ((by rw [hg]; exact (below_size (by repeat (first | (with_reducible first | exact HB.out | apply bX_ | apply bW_ | apply bY_) | exact HB.out))) : w.heap.size ≤ gb115)); clear HB; have HB := n0_; have BK115 := n1_; have GW115 := n2_; have GE115 := n3_; clear n0_ n1_ n2_ n3_; clear hb hbox hg; have hcz5_0 : w4.cell? ⟨gb115, 0, none⟩ = some (.int .u8 0) := (bC_ BK115.out 0).trans rfl; have hcz5_1 : w4.cell? ⟨gb115, 1, none⟩ = some (.int .i64 0) := (bC_ BK115.out 1).trans rfl; have hcz5_2 : w4.cell? ⟨gb115, 2, none⟩ = some (.int .i64 0) := (bC_ BK115.out 2).trans rfl; have hcz5_3 : w4.cell? ⟨gb115, 3, none⟩ = some (.int .i64 0) := (bC_ BK115.out 3).trans rfl; have hcz5_4 : w4.cell? ⟨gb115, 4, none⟩ = some (.int .i64 0) := (bC_ BK115.out 4).trans rfl; have hcz5_5 : w4.cell? ⟨gb115, 5, none⟩ = some (.int .i64 0) := (bC_ BK115.out 5).trans rfl; have hcz5_6 : w4.cell? ⟨gb115, 6, none⟩ = some (.bool false) := (bC_ BK115.out 6).trans rfl; have hcz5_7 : w4.cell? ⟨gb115, 7, none⟩ = some (.int .i64 0) := (bC_ BK115.out 7).trans rfl; have hfz5_0 := bF_ BK115.out 0; have hfz5_1 := bF_ BK115.out 1; have hfz5_2 := bF_ BK115.out 2; have hfz5_3 := bF_ BK115.out 3; have hfz5_4 := bF_ BK115.out 4; have hfz5_5 := bF_ BK115.out 5; have hfz5_6 := bF_ BK115.out 6; have hfz5_7 := bF_ BK115.out 7))
  refine bodyPost_ret (results_cell_row rfl _ _ gb115 23 #[.int .u8 2, .int .i64 0, .int .i64 ji3, .int .i64 (-1), .int .i64 1, .int .i64 a1, .bool false, .int .i64 0] (0, 0) _ rfl (by (with_reducible repeat (first | refine bN_ ?_ _ | refine bD_ ?_ | refine bA_ ?_ _)); refine blk_put (cs := #[.int .u8 2, .int .i64 0, .int .i64 ji3, .int .i64 (-1), .int .i64 1, .int .i64 a1, .bool false, .int .i64 0]) ?_ 7 _ rfl; (with_reducible repeat (first | refine bN_ ?_ _ | refine bD_ ?_ | refine bA_ ?_ _)); refine blk_put (cs := #[.int .u8 2, .int .i64 0, .int .i64 ji3, .int .i64 (-1), .int .i64 1, .int .i64 a1, .bool false, .int .i64 0]) ?_ 6 _ rfl; (with_reducible repeat (first | refine bN_ ?_ _ | refine bD_ ?_ | refine bA_ ?_ _)); refine blk_put (cs := #[.int .u8 2, .int .i64 0, .int .i64 ji3, .int .i64 (-1), .int .i64 1, .int .i64 0, .bool false, .int .i64 0]) ?_ 5 _ rfl; (with_reducible repeat (first | refine bN_ ?_ _ | refine bD_ ?_ | refine bA_ ?_ _)); refine blk_put (cs := #[.int .u8 2, .int .i64 0, .int .i64 ji3, .int .i64 (-1), .int .i64 0, .int .i64 0, .bool false, .int .i64 0]) ?_ 4 _ rfl; (with_reducible repeat (first | refine bN_ ?_ _ | refine bD_ ?_ | refine bA_ ?_ _)); refine blk_put (cs := #[.int .u8 2, .int .i64 0, .int .i64 ji3, .int .i64 0, .int .i64 0, .int .i64 0, .bool false, .int .i64 0]) ?_ 3 _ rfl; (with_reducible repeat (first | refine bN_ ?_ _ | refine bD_ ?_ | refine bA_ ?_ _)); refine blk_put (cs := #[.int .u8 2, .int .i64 0, .int .i64 0, .int .i64 0, .int .i64 0, .int .i64 0, .bool false, .int .i64 0]) ?_ 2 _ rfl; (with_reducible repeat (first | refine bN_ ?_ _ | refine bD_ ?_ | refine bA_ ?_ _)); refine blk_put (cs := #[.int .u8 2, .int .i64 0, .int .i64 0, .int .i64 0, .int .i64 0, .int .i64 0, .bool false, .int .i64 0]) ?_ 1 _ rfl; (with_reducible repeat (first | refine bN_ ?_ _ | refine bD_ ?_ | refine bA_ ?_ _)); refine blk_put (cs := #[.int .u8 0, .int .i64 0, .int .i64 0, .int .i64 0, .int .i64 0, .int .i64 0, .bool false, .int .i64 0]) ?_ 0 _ rfl; (with_reducible repeat (first | refine bN_ ?_ _ | refine bD_ ?_ | refine bA_ ?_ _)); exact BK115.out) Tryd.underlying23 rfl (by kernel_rfl)) rfl ?_
  exact ⟨by first | rfl | (simp [errW_none, errW_some] <;> rfl) | (simp only [← hji3]; first | rfl | (simp [errW_none, errW_some] <;> rfl)) | (simp [*, errW_none, errW_some] <;> rfl), by repeat (first | (with_reducible first | exact HB.out | apply bX_ | apply bW_ | apply bY_ | refine bS_ ?_ GE115.out) | exact HB.out)⟩
noncomputable def operand_Take.f (l0 : List Int) (a1 : Int) : Option (Int × Int × Int × Int × Int × Int × Int × Bool × Int × Int × Int) := G.Take l0 a1
theorem operand_Take.calls (A0 : Option Addr) (c0 : Nat) (l0 : List Int) (a1 : Int) (r1 : Int) (r2 : Int) (r3 : Int) (r4 : Int) (r5 : Int) (r6 : Int) (r7 : Int) (r8 : Bool) (r9 : Int) (r10 : Int) (r11 : Int) (w : World) (hr0 : Kd.C (Kd.int .u8) w A0 l0.length l0) (hc0 : l0.length ≤ c0) (h : operand_Take.f l0 a1 = some (r1, r2, r3, r4, r5, r6, r7, r8, r9, r10, r11)) :
    Calls Tryd.prog 11 #[.slice A0 l0.length c0, .int .u8 a1] w fun e w' => e = .returned (.tuple #[.int .i64 r1, .agg #[.int .u8 r2, .int .i64 r3, .int .i64 r4, .int .i64 r5, .int .i64 r6, .int .i64 r7, .bool r8, .int .i64 r9], .int .i64 r10, .int .i64 r11]) ∧ Below w.heap.size w w' :=
  G.Take_calls A0 c0 l0 a1 r1 r2 r3 r4 r5 r6 r7 r8 r9 r10 r11 w hr0 hc0 h
noncomputable def l8_wakes.f  : Option (Bool) := G.Wakes
theorem l8_wakes.calls  (r : Bool) (w : World) (h : l8_wakes.f  = some r) :
    Calls Tryd.prog 8 #[] w fun e w' => e = .returned (.bool r) ∧ Below w.heap.size w w' :=
  G.Wakes_calls r w h
noncomputable def r8_Reg.f (a0 : Int) : Option (Int × Int × Int × Int × Int × Int × Bool × Int) := some (1, a0, (-1), (-1), 0, 0, false, 0)
set_option maxHeartbeats 8000000 in
set_option maxRecDepth 100000 in
theorem r8_Reg.calls (a0 : Int) (r1 : Int) (r2 : Int) (r3 : Int) (r4 : Int) (r5 : Int) (r6 : Int) (r7 : Bool) (r8 : Int) (w : World) (h : r8_Reg.f a0 = some (r1, r2, r3, r4, r5, r6, r7, r8)) :
    Calls Tryd.prog 20 #[.int .i64 a0] w fun e w' => e = .returned (.agg #[.int .u8 r1, .int .i64 r2, .int .i64 r3, .int .i64 r4, .int .i64 r5, .int .i64 r6, .bool r7, .int .i64 r8]) ∧ Below w.heap.size w w' := by
  have hu23 := Tryd.underlying23
  have HB := Aside0.mk (Below.refl w.heap.size w)
  have H : (some (1, a0, (-1), (-1), 0, 0, false, 0)) = some (r1, r2, r3, r4, r5, r6, r7, r8) := h
  clear h
  simp only [Option.some.injEq, Prod.mk.injEq] at H
  obtain ⟨rfl, rfl, rfl, rfl, rfl, rfl, rfl, rfl⟩ := H
  go_enter Tryd.func20, Tryd.ntmps20
  go_wp2_with (first | ((with_reducible refine gate_dst (N := 2) rfl ?_); refine box_event ?hg (N := 2) ?hd (cs := #[.int .u8 0, .int .i64 0, .int .i64 0, .int .i64 0, .int .i64 0, .int .i64 0, .bool false, .int .i64 0]) (t := 23) ?hr ?_; (case hd => rfl); (case hg => rfl); (case hr => first | (go_simp; done) | (go_simp; rfl)); intro gb116 hg w2 hbox hb; have n0_ := Aside0.mk (below_step (by repeat (first | (with_reducible first | exact HB.out | apply bX_ | apply bW_ | apply bY_) | exact HB.out)) hb); have n1_ := Aside0.mk (hbox); have n2_ := Aside0.mk ((by rw [hg]; exact (below_size (by repeat (first | (with_reducible first | exact HB.out | apply bX_ | apply bW_ | apply bY_) | exact HB.out))) : w.heap.size ≤ gb116)); have n3_ := Aside0.mk ((by rw [hg]; exact (below_size (by repeat (first | (with_reducible first | exact HB.out | apply bX_ | apply bW_ | apply bY_) | exact HB.out))) : w.heap.size ≤ gb116)); clear HB; have HB := n0_; have BK116 := n1_; have GW116 := n2_; have GE116 := n3_; clear n0_ n1_ n2_ n3_; clear hb hbox hg; have hcz3_0 : w2.cell? ⟨gb116, 0, none⟩ = some (.int .u8 0) := (bC_ BK116.out 0).trans rfl; have hcz3_1 : w2.cell? ⟨gb116, 1, none⟩ = some (.int .i64 0) := (bC_ BK116.out 1).trans rfl; have hcz3_2 : w2.cell? ⟨gb116, 2, none⟩ = some (.int .i64 0) := (bC_ BK116.out 2).trans rfl; have hcz3_3 : w2.cell? ⟨gb116, 3, none⟩ = some (.int .i64 0) := (bC_ BK116.out 3).trans rfl; have hcz3_4 : w2.cell? ⟨gb116, 4, none⟩ = some (.int .i64 0) := (bC_ BK116.out 4).trans rfl; have hcz3_5 : w2.cell? ⟨gb116, 5, none⟩ = some (.int .i64 0) := (bC_ BK116.out 5).trans rfl; have hcz3_6 : w2.cell? ⟨gb116, 6, none⟩ = some (.bool false) := (bC_ BK116.out 6).trans rfl; have hcz3_7 : w2.cell? ⟨gb116, 7, none⟩ = some (.int .i64 0) := (bC_ BK116.out 7).trans rfl; have hfz3_0 := bF_ BK116.out 0; have hfz3_1 := bF_ BK116.out 1; have hfz3_2 := bF_ BK116.out 2; have hfz3_3 := bF_ BK116.out 3; have hfz3_4 := bF_ BK116.out 4; have hfz3_5 := bF_ BK116.out 5; have hfz3_6 := bF_ BK116.out 6; have hfz3_7 := bF_ BK116.out 7))
  refine bodyPost_ret (results_cell_row rfl _ _ gb116 23 #[.int .u8 1, .int .i64 a0, .int .i64 (-1), .int .i64 (-1), .int .i64 0, .int .i64 0, .bool false, .int .i64 0] (0, 0) _ rfl (by (with_reducible repeat (first | refine bN_ ?_ _ | refine bD_ ?_ | refine bA_ ?_ _)); refine blk_put (cs := #[.int .u8 1, .int .i64 a0, .int .i64 (-1), .int .i64 (-1), .int .i64 0, .int .i64 0, .bool false, .int .i64 0]) ?_ 7 _ rfl; (with_reducible repeat (first | refine bN_ ?_ _ | refine bD_ ?_ | refine bA_ ?_ _)); refine blk_put (cs := #[.int .u8 1, .int .i64 a0, .int .i64 (-1), .int .i64 (-1), .int .i64 0, .int .i64 0, .bool false, .int .i64 0]) ?_ 6 _ rfl; (with_reducible repeat (first | refine bN_ ?_ _ | refine bD_ ?_ | refine bA_ ?_ _)); refine blk_put (cs := #[.int .u8 1, .int .i64 a0, .int .i64 (-1), .int .i64 (-1), .int .i64 0, .int .i64 0, .bool false, .int .i64 0]) ?_ 5 _ rfl; (with_reducible repeat (first | refine bN_ ?_ _ | refine bD_ ?_ | refine bA_ ?_ _)); refine blk_put (cs := #[.int .u8 1, .int .i64 a0, .int .i64 (-1), .int .i64 (-1), .int .i64 0, .int .i64 0, .bool false, .int .i64 0]) ?_ 4 _ rfl; (with_reducible repeat (first | refine bN_ ?_ _ | refine bD_ ?_ | refine bA_ ?_ _)); refine blk_put (cs := #[.int .u8 1, .int .i64 a0, .int .i64 (-1), .int .i64 0, .int .i64 0, .int .i64 0, .bool false, .int .i64 0]) ?_ 3 _ rfl; (with_reducible repeat (first | refine bN_ ?_ _ | refine bD_ ?_ | refine bA_ ?_ _)); refine blk_put (cs := #[.int .u8 1, .int .i64 a0, .int .i64 0, .int .i64 0, .int .i64 0, .int .i64 0, .bool false, .int .i64 0]) ?_ 2 _ rfl; (with_reducible repeat (first | refine bN_ ?_ _ | refine bD_ ?_ | refine bA_ ?_ _)); refine blk_put (cs := #[.int .u8 1, .int .i64 0, .int .i64 0, .int .i64 0, .int .i64 0, .int .i64 0, .bool false, .int .i64 0]) ?_ 1 _ rfl; (with_reducible repeat (first | refine bN_ ?_ _ | refine bD_ ?_ | refine bA_ ?_ _)); refine blk_put (cs := #[.int .u8 0, .int .i64 0, .int .i64 0, .int .i64 0, .int .i64 0, .int .i64 0, .bool false, .int .i64 0]) ?_ 0 _ rfl; (with_reducible repeat (first | refine bN_ ?_ _ | refine bD_ ?_ | refine bA_ ?_ _)); exact BK116.out) Tryd.underlying23 rfl (by kernel_rfl)) rfl ?_
  exact ⟨by first | rfl | (simp [errW_none, errW_some] <;> rfl) | (simp [*, errW_none, errW_some] <;> rfl), by repeat (first | (with_reducible first | exact HB.out | apply bX_ | apply bW_ | apply bY_ | refine bS_ ?_ GE116.out) | exact HB.out)⟩
end Go.Proofs.YtppeidopijnnlaaDoor.C
