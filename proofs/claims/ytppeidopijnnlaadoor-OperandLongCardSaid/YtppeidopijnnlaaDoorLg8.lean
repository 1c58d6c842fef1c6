/- What the printed texts of the namespace C are given: contracts of operand.Take, operand.Uses, operand.Put, and of the law's check at constants. What a slice of bytes that is handed in holds. The row's condition on the listed tables, as facts of cells; and what an operand that is handed in holds. -/
import Derived.Test.YtppeidopijnnlaaDoorLg5
import Derived.Test.YtppeidopijnnlaaDoorLg7
import Derived.Test.YtppeidopijnnlaaDoorProg
import Derived.Test.YtppeidopijnnlaaDoorLg1
import Derived.Test.YtppeidopijnnlaaDoorWMore
import Derived.Test.YtppeidopijnnlaaDoorWLast
import Derived.Deep.Slices
import Derived.ProofKit
import Derived.Test.YtppeidopijnnlaaDoorRows
import Derived.Lib.LaidTab
import Derived.OpenShut
import Derived.ChangeSame
import Derived.Below
import Derived.Deep.Draws
import Derived.Deep.AppendLies
import Derived.Maps.AppendAt
import Derived.OwnWalk
import Derived.Laws.BytesArg
import Derived.Laws.MakeOwn
import Derived.Laws.OwnMore
import Derived.Deep.OwnRows
import Derived.Tactics
import Derived.Lib.ConvBytes
import Derived.Laws.Slices
import Derived.WalkKit
import Derived.KernelRfl
import Derived.RowKit3
import Derived.Deep.LoopGhost
import Derived.Deep.QuietTactic
import Derived.BigQuiet
import Derived.WideLaws
import Derived.Deep.DeepCutAuto
import Derived.Deep.CutBlock
import Derived.Deep.RegionHeld3
import Derived.Laws.Rows
import Derived.Lib.AppendStr
import Derived.ArgAppend
import Derived.Laws.IdiomCopy
import Derived.OrdersHeld
import Derived.Laws.BitsLemmas
import Derived.RowKit
import Derived.Test.YtppeidopijnnlaaDoorWWords
import Derived.Test.YtppeidopijnnlaaDoorWTab
import Derived.Test.YtppeidopijnnlaaDoorWFour
import Derived.Test.YtppeidopijnnlaaDoorWQPut
import Derived.Test.YtppeidopijnnlaaDoorWApart
import Derived.Test.YtppeidopijnnlaaDoorWArr
import Derived.Test.YtppeidopijnnlaaDoorWZeros
import Derived.Test.YtppeidopijnnlaaDoorWFoot
import Derived.Test.YtppeidopijnnlaaDoorWKept
import Derived.Test.YtppeidopijnnlaaDoorWShare
import Derived.Test.YtppeidopijnnlaaDoorWN
import Derived.Test.YtppeidopijnnlaaDoorWFootNe
import Derived.Test.YtppeidopijnnlaaDoorWAt
import Derived.Test.YtppeidopijnnlaaDoorWEqStruct
import Derived.Test.YtppeidopijnnlaaDoorWRepsOne
import Derived.Test.YtppeidopijnnlaaDoorWInv
import Derived.Test.YtppeidopijnnlaaDoorWInvWords
import Derived.Test.YtppeidopijnnlaaDoorWGuard
import Derived.Test.YtppeidopijnnlaaDoorWNEv
namespace Go.Proofs.YtppeidopijnnlaaDoor.C
open Go.RowKit Go.Proofs.YtppeidopijnnlaaDoorW.PrintWords Go.Proofs.YtppeidopijnnlaaDoorW.PrintMore Go.RF
set_option linter.unusedVariables false
abbrev TakeT := B.TakeT
noncomputable def G.Take : List Int → Int → Option TakeT := B.G.Take
theorem G.Take_calls (A0 : Option Addr) (c0 : Nat) (l0 : List Int) (a1 : Int) (r1 : Int) (r2 : Int) (r3 : Int) (r4 : Int) (r5 : Int) (r6 : Int) (r7 : Int) (r8 : Bool) (r9 : Int) (r10 : Int) (r11 : Int) (w : World) (hr0 : Kd.C (Kd.int .u8) w A0 l0.length l0) (hc0 : l0.length ≤ c0) (h : G.Take l0 a1 = some (r1, r2, r3, r4, r5, r6, r7, r8, r9, r10, r11)) :
    Calls Tryd.prog 11 #[.slice A0 l0.length c0, .int .u8 a1] w fun e w' => e = .returned (.tuple #[.int .i64 r1, .agg #[.int .u8 r2, .int .i64 r3, .int .i64 r4, .int .i64 r5, .int .i64 r6, .int .i64 r7, .bool r8, .int .i64 r9], .int .i64 r10, .int .i64 r11]) ∧ Below w.heap.size w w' :=
  B.G.Take_calls A0 c0 l0 a1 r1 r2 r3 r4 r5 r6 r7 r8 r9 r10 r11 w hr0 hc0 h
noncomputable def G.Uses : Int → Int → Int → Int → Int → Int → Bool → Int → Option (List Int) := B.G.Uses
theorem G.Uses_calls (a0_0 : Int) (a0_1 : Int) (a0_2 : Int) (a0_3 : Int) (a0_4 : Int) (a0_5 : Int) (a0_6 : Bool) (a0_7 : Int) (r : List Int) (w : World) (h : G.Uses a0_0 a0_1 a0_2 a0_3 a0_4 a0_5 a0_6 a0_7 = some r) :
    Calls Tryd.prog 17 #[.agg #[.int .u8 a0_0, .int .i64 a0_1, .int .i64 a0_2, .int .i64 a0_3, .int .i64 a0_4, .int .i64 a0_5, .bool a0_6, .int .i64 a0_7]] w fun e w' => ∃ v0_ : Value, e = .returned (v0_) ∧ Kd.R (Kd.int .i64) 3 w' w.heap.size (fun _ => True) v0_ r ∧ Below w.heap.size w w' :=
  B.G.Uses_calls a0_0 a0_1 a0_2 a0_3 a0_4 a0_5 a0_6 a0_7 r w h
/-- the fact of the world that is handed on -/
def Tab (w : World) : Prop := B.TabAt w
theorem Tab.below {W W1 : World} (h : Tab W) (hb : Below W.heap.size W W1) : Tab W1 := B.TabAt.below h hb (B.TabAt.lt h)
def putO (a0 a1_0 a1_1 a1_2 a1_3 a1_4 a1_5 : Int) (a1_6 : Bool) (a1_7 : Int) : Option (List Int × Int × Int) := some (B.putF a0 a1_0 a1_1 a1_2 a1_3 a1_4 a1_5 a1_6 a1_7)
noncomputable def G.Put : Int → Int → Int → Int → Int → Int → Int → Bool → Int → Option (List Int × Int × Int) := Classical.choose (⟨putO, rfl⟩ : ∃ f : Int → Int → Int → Int → Int → Int → Int → Bool → Int → Option (List Int × Int × Int), f = putO)
theorem G.Put_eq : G.Put = putO := Classical.choose_spec (⟨putO, rfl⟩ : ∃ f : Int → Int → Int → Int → Int → Int → Int → Bool → Int → Option (List Int × Int × Int), f = putO)
theorem G.Put_calls (a0 : Int) (a1_0 : Int) (a1_1 : Int) (a1_2 : Int) (a1_3 : Int) (a1_4 : Int) (a1_5 : Int) (a1_6 : Bool) (a1_7 : Int) (r1 : List Int) (r2 : Int) (r3 : Int) (w : World) (hT_ : Tab w) (h : G.Put a0 a1_0 a1_1 a1_2 a1_3 a1_4 a1_5 a1_6 a1_7 = some (r1, r2, r3)) :
    Calls Tryd.prog 9 #[.int .i64 a0, .agg #[.int .u8 a1_0, .int .i64 a1_1, .int .i64 a1_2, .int .i64 a1_3, .int .i64 a1_4, .int .i64 a1_5, .bool a1_6, .int .i64 a1_7]] w fun e w' => ∃ v0_ : Value, e = .returned (.tuple #[v0_, .int .u8 r2, .int .i64 r3]) ∧ Kd.R (Kd.int .u8) 5 w' w.heap.size (fun _ => True) v0_ r1 ∧ Below w.heap.size w w' := by
  rw [G.Put_eq] at h
  have e := Option.some.inj h
  have p := B.put_calls a0 a1_0 a1_1 a1_2 a1_3 a1_4 a1_5 a1_6 a1_7 w (fun _ => hT_)
  rw [e] at p
  exact p
noncomputable def G.Wakes : Option Bool := B.sundiallaw08_wakes.f
theorem G.Wakes_calls  (r : Bool) (w : World) (h : G.Wakes  = some r) :
    Calls Tryd.prog 8 #[] w fun e w' => e = .returned (.bool r) ∧ Below w.heap.size w w' :=
  B.sundiallaw08_wakes.calls r w h
end Go.Proofs.YtppeidopijnnlaaDoor.C
namespace Go.Proofs.YtppeidopijnnlaaDoor.B
open Go.RowKit Go.Proofs.YtppeidopijnnlaaDoorW.PrintWords Go.Proofs.YtppeidopijnnlaaDoorW.PrintLast Go.Proofs.YtppeidopijnnlaaDoorW.PrintMore Go.RF Go.Deep Go.ChangeShapes Go.WideShapes Go.ChangeAt
set_option linter.unusedVariables false
section
variable {H : Type} {enc : TypeId × Value → H} {P : Program} {w : World} {base : Nat} {spare : Nat → Bool} {held : Bool}
theorem open_kint {t : TypeId} {k : IntKind} {fuel : Nat} {cs : List Value} {x : DataW H × List MemPlace} (he : P.underlying t = some (.int k)) (h : DataW.trod enc P w base spare held fuel t cs = some x) : ∃ y, (Kd.int k).K w y cs ∧ (Lit.int k y).wf = true := by
  obtain ⟨n, rfl, _, hw⟩ := DataW.trod_int he h
  exact ⟨n, rfl, hw⟩
theorem open_kslice {α : Type} [Inhabited α] (d : Kd α) (good : α → Prop) {t e : TypeId} {fuel : Nat} {cs : List Value} {x : DataW H × List MemPlace} (ht : P.underlying t = some (.slice e)) (hc : P.cellsOf e = d.sz)
    (hel : ∀ fuel cs x, DataW.trod enc P w base spare held fuel e cs = some x → ∃ y, d.K w y cs ∧ good y) (h : DataW.trod enc P w base spare held fuel t cs = some x) :
    ∃ (A : Option Addr) (c : Nat) (xs : List α), cs = [.slice A xs.length c] ∧ xs.length ≤ c ∧ d.C w A xs.length xs ∧ ∀ y ∈ xs, good y := by
  rcases open_slice ht h with ⟨rfl, _⟩ | ⟨a, len, cap, m, n, D, Pl, rfl, hb, hl, hm, hmm, rfl, hx⟩
  · exact ⟨none, 0, [], rfl, Nat.le_refl _, ⟨rfl, by simp, fun h => by simp at h⟩, fun y hy => by simp at hy⟩
  have hlm : len ≤ m := by rw [hmm]; split <;> omega
  obtain ⟨q, hq⟩ := choose_lt (α := α × List Value) (n := len) (p := fun i y => w.cells? base (a.add (i * P.cellsOf e)) (P.cellsOf e) = some y.2 ∧ d.K w y.1 y.2 ∧ good y.1) (fun i hi => by
    obtain ⟨cs', h1, h2⟩ := hx i (by omega)
    obtain ⟨y, h3, h4⟩ := hel _ _ _ h2
    exact ⟨(y, cs'), h1, h3, h4⟩)
  have hlen : ((List.range len).map fun i => (q i).1).length = len := by simp
  refine ⟨some a, cap, (List.range len).map fun i => (q i).1, by rw [hlen], by rw [hlen]; exact hl, ⟨rfl, by rw [hlen]; unfold maxLen at hm; omega, fun _ => ⟨a, rfl, fun j p hj => ?_⟩⟩, fun y hy => ?_⟩
  · obtain ⟨hjl, rfl⟩ := List.getElem?_eq_some_iff.1 hj
    rw [hlen] at hjl
    obtain ⟨h1, h2, h3⟩ := hq j hjl
    obtain ⟨_, hcl, hcell⟩ := World.cells?_some h1
    refine ⟨(q j).2, by rw [hcl, hc], by simpa using h2, fun i u hu => ?_⟩
    have hi := (List.getElem?_eq_some_iff.1 hu).1
    have e1 := hcell i (by omega)
    rw [Go.Deep.add_add, hc, hu] at e1
    exact e1
  · obtain ⟨i, hi, rfl⟩ := List.mem_map.1 hy
    exact (hq i (List.mem_range.1 hi)).2.2
end
theorem open_bytes {H : Type} {enc : TypeId × Value → H} {w : World} {base : Nat} {spare : Nat → Bool} {held : Bool} {v : Value} {d : DataW H} {ps : List MemPlace} (hv : ∃ a n c, v = .slice a n c) (h : DataW.Trod enc Tryd.prog w base spare held 24 v d ps) :
    ∃ (A : Option Addr) (c : Nat) (l : List Int), v = .slice A l.length c ∧ l.length ≤ c ∧ Kd.C (Kd.int .u8) w A l.length l ∧ ∀ y ∈ l, (Lit.int .u8 y).wf = true := by
  obtain ⟨a, n, c, rfl⟩ := hv
  obtain ⟨fuel, hf⟩ := h
  obtain ⟨A, c', l, hcs, hl, hC, hg⟩ := open_kslice (Kd.int .u8) (fun b => (Lit.int .u8 b).wf = true) Tryd.underlying24 (by kernel_rfl) (fun _ _ _ h => open_kint Tryd.underlying5 h) hf
  have e : Value.slice a n c = .slice A l.length c' := by
    simp [Value.cells] at hcs
    obtain ⟨rfl, rfl, rfl⟩ := hcs
    rfl
  exact ⟨A, c', l, e, hl, hC, hg⟩
end Go.Proofs.YtppeidopijnnlaaDoor.B
namespace Go.Proofs.YtppeidopijnnlaaDoor.C
open Go.RowKit Go.ChangeShapes Go.WideShapes Go.ChangeAt Go.Lib
set_option linter.unusedVariables false
theorem laid_read {P : Program} {w : World} : ∀ {l : List (String × DataW Unit)} {ps : List MemPlace}, DataW.LaidVars P w l ps → ∀ n d, (n, d) ∈ l →
    ∃ g t cs fuel p, P.globalNamed n = some g ∧ (P.globals[g]?).map (·.type) = some t ∧ w.var? P n = some cs ∧ DataW.trod (fun _ => ()) P w 0 (fun _ => true) false fuel t cs.toList = some (d, p)
  | [], _, _, _, _, hm => by cases hm
  | (n', d') :: r, ps, h, n, d, hm => by
    obtain ⟨g, t, cs, fuel, p, q, h1, h2, h3, h4, h5, _⟩ := h
    rcases List.mem_cons.1 hm with e | e
    · cases e
      exact ⟨g, t, cs, fuel, p, h1, h2, h3, h4⟩
    · exact laid_read h5 n d e
/-- a table of numbers that is listed lies, cell for cell -/
theorem tab_at {P : Program} {w : World} {l : List (String × DataW Unit)} {name : String} {k : IntKind} {zs : List Int} {g t e n : Nat} (hL : laidMet P l w) (hm : (name, (tabData k zs : DataW Unit)) ∈ l) (hg : P.globalNamed name = some g)
    (htt : (P.globals[g]?).map (·.type) = some t) (ht : P.underlying t = some (.array n e)) (he : P.underlying e = some (.int k)) (hce : P.cellsOf e = 1) (hct : P.cellsOf t = n) (i : Nat) (z : Int) (hz : zs[i]? = some z) :
    w.cell? ⟨g, i, none⟩ = some (.int k z) := by
  obtain ⟨ps, hv, -⟩ := hL
  obtain ⟨g', t', cs, fuel, p, h1, h2, h3, h4⟩ := laid_read hv _ _ hm
  obtain rfl : g' = g := Option.some.inj (h1.symm.trans hg)
  obtain rfl : t' = t := Option.some.inj (h2.symm.trans htt)
  have hcs := cells_of_tab ht he hce hct h4
  unfold World.var? at h3
  rw [hg] at h3
  simp only [Option.bind_some] at h3
  unfold World.cell?
  cases hh : w.heap[g']? with
  | none => rw [hh] at h3; simp at h3
  | some o =>
    rw [hh] at h3
    cases o with
    | cells c tt fr =>
      simp only [Option.some.injEq] at h3
      subst h3
      have : c[i]? = some (.int k z) := by
        have e1 : c.toList[i]? = some (.int k z) := by rw [hcs]; simp [hz]
        simpa using e1
      simp [this]
    | _ => simp at h3
theorem laid_of {l : List (String × DataW Unit)} {w : World} (hm : ("math/bits.deBruijn64tab", (Rows.laid_math_bits_deBruijn64tab : DataW Unit)) ∈ l) (hL : laidMet Tryd.prog l w) : Tab w := by
  have h : ∀ i z, ([0, 1, 56, 2, 57, 49, 28, 3, 61, 58, 42, 50, 38, 29, 17, 4, 62, 47, 59, 36, 45, 43, 51, 22, 53, 39, 33, 30, 24, 18, 12, 5, 63, 55, 48, 27, 60, 41, 37, 16, 46, 35, 44, 21, 52, 32, 23, 11, 54, 26, 40, 15, 34, 20, 31, 10, 25, 14, 19, 9, 13, 8, 7, 6] : List Int)[i]? = some z → w.cell? ⟨1, i, none⟩ = some (.int .u8 z) :=
    fun i z hz => tab_at hL hm (by kernel_rfl) (t := 70) (by kernel_rfl) (n := 64) (e := 5) (by kernel_rfl) (by kernel_rfl) (by kernel_rfl) (by kernel_rfl) i z hz
  exact ⟨h 0 _ rfl, h 1 _ rfl, h 3 _ rfl, h 7 _ rfl⟩
/-- the numbers of an operand -/
def GoodOp (k R base idx sc dp im : Int) : Prop := (Lit.int .u8 k).wf = true ∧ (Lit.int .i64 R).wf = true ∧ (Lit.int .i64 base).wf = true ∧ (Lit.int .i64 idx).wf = true ∧ (Lit.int .i64 sc).wf = true ∧ (Lit.int .i64 dp).wf = true ∧ (Lit.int .i64 im).wf = true
theorem st_operand {H : Type} {enc : TypeId × Value → H} {w : World} {base : Nat} {spare : Nat → Bool} {held : Bool} {v : Value} {d : DataW H} {ps : List MemPlace} (hv : ∃ cs, v = .agg cs ∧ cs.size = Tryd.prog.cellsOf 23) (h : DataW.Trod enc Tryd.prog w base spare held 23 v d ps) :
    ∃ k R b i s dp rip im, v = .agg #[.int .u8 k, .int .i64 R, .int .i64 b, .int .i64 i, .int .i64 s, .int .i64 dp, .bool rip, .int .i64 im] ∧ GoodOp k R b i s dp im := by
  obtain ⟨⟨cs⟩, rfl, hsz⟩ := hv
  have hsz' : cs.length = 8 := hsz
  obtain ⟨fuel, hf⟩ := h
  obtain ⟨xs, n, rfl, _, hcl, hxl, hF⟩ := DataW.trod_struct Tryd.underlying23 hf
  have hxl' : xs.length = 8 := hxl
  match cs, hsz', xs, hxl' with
  | [v0, v1, v2, v3, v4, v5, v6, v7], _, [y0, y1, y2, y3, y4, y5, y6, y7], _ =>
    have g0' : DataW.trod enc Tryd.prog w base spare held n 5 [v0] = some y0 := hF 0 _ rfl
    have g1' : DataW.trod enc Tryd.prog w base spare held n 3 [v1] = some y1 := hF 1 _ rfl
    have g2' : DataW.trod enc Tryd.prog w base spare held n 3 [v2] = some y2 := hF 2 _ rfl
    have g3' : DataW.trod enc Tryd.prog w base spare held n 3 [v3] = some y3 := hF 3 _ rfl
    have g4' : DataW.trod enc Tryd.prog w base spare held n 3 [v4] = some y4 := hF 4 _ rfl
    have g5' : DataW.trod enc Tryd.prog w base spare held n 2 [v5] = some y5 := hF 5 _ rfl
    have g6' : DataW.trod enc Tryd.prog w base spare held n 4 [v6] = some y6 := hF 6 _ rfl
    have g7' : DataW.trod enc Tryd.prog w base spare held n 2 [v7] = some y7 := hF 7 _ rfl
    obtain ⟨a0, h0, _, w0⟩ := DataW.trod_int Tryd.underlying5 g0'
    obtain ⟨a1, h1, _, w1⟩ := DataW.trod_int Tryd.underlying3 g1'
    obtain ⟨a2, h2, _, w2⟩ := DataW.trod_int Tryd.underlying3 g2'
    obtain ⟨a3, h3, _, w3⟩ := DataW.trod_int Tryd.underlying3 g3'
    obtain ⟨a4, h4, _, w4⟩ := DataW.trod_int Tryd.underlying3 g4'
    obtain ⟨a5, h5, _, w5⟩ := DataW.trod_int Tryd.underlying2 g5'
    obtain ⟨a6, h6, _⟩ := DataW.trod_bool Tryd.underlying4 g6'
    obtain ⟨a7, h7, _, w7⟩ := DataW.trod_int Tryd.underlying2 g7'
    injection h0 with h0; injection h1 with h1; injection h2 with h2; injection h3 with h3; injection h4 with h4; injection h5 with h5; injection h6 with h6; injection h7 with h7
    subst h0; subst h1; subst h2; subst h3; subst h4; subst h5; subst h6; subst h7
    exact ⟨a0, a1, a2, a3, a4, a5, a6, a7, rfl, w0, w1, w2, w3, w4, w5, w7⟩
theorem open_bytes {H : Type} {enc : TypeId × Value → H} {w : World} {base : Nat} {spare : Nat → Bool} {held : Bool} {v : Value} {d : DataW H} {ps : List MemPlace} (hv : ∃ a n c, v = .slice a n c) (h : DataW.Trod enc Tryd.prog w base spare held 24 v d ps) :
    ∃ (A : Option Addr) (c : Nat) (l : List Int), v = .slice A l.length c ∧ l.length ≤ c ∧ YtppeidopijnnlaaDoorW.PrintWords.Kd.C (YtppeidopijnnlaaDoorW.PrintWords.Kd.int .u8) w A l.length l ∧ ∀ y ∈ l, (Lit.int .u8 y).wf = true := B.open_bytes hv h
end Go.Proofs.YtppeidopijnnlaaDoor.C
-- PRINTED by print.py (a twelfth state) out of the translation. Not trusted: Lean checks it.
namespace Go.Proofs.YtppeidopijnnlaaDoor.C
open Go.RowKit Go.Proofs.YtppeidopijnnlaaDoorW.PrintWords Go.Proofs.YtppeidopijnnlaaDoorW.PrintLast Go.Proofs.YtppeidopijnnlaaDoorW.PrintMore
attribute [local go_sem] max2_int min2_int max_two min_two max_three min_three max_four min_four   -- for this text's walks alone
set_option linter.unusedVariables false
set_option linter.unusedSimpArgs false



def errW : Option Int → Value
  | none => .nilIface
  | some c => .iface 0 (.int .i64 c)
theorem errW_none : errW none = .nilIface := rfl
theorem errW_some (c : Int) : errW (some c) = .iface 0 (.int .i64 c) := rfl

theorem info3 : (Tryd.prog.info? 3).map (fun i => (i.zero, i.size, i.bytes)) = some (some (.int .i64 0), 1, 8) := by kernel_rfl
theorem info5 : (Tryd.prog.info? 5).map (fun i => (i.zero, i.size, i.bytes)) = some (some (.int .u8 0), 1, 1) := by kernel_rfl
-- the values' own types
/-! #### struct type 23 -/
structure S23 where
  f0 : Int
  f1 : Int
  f2 : Int
  f3 : Int
  f4 : Int
  f5 : Int
  f6 : Bool
  f7 : Int
def z23 : S23 := ⟨(0 : Int), (0 : Int), (0 : Int), (0 : Int), (0 : Int), (0 : Int), false, (0 : Int)⟩
def k23 : Kd S23 := Kd.iso (Kd.pair (Kd.int .u8) (Kd.pair (Kd.int .i64) (Kd.pair (Kd.int .i64) (Kd.pair (Kd.int .i64) (Kd.pair (Kd.int .i64) (Kd.pair (Kd.int .i64) (Kd.pair Kd.bool (Kd.int .i64)))))))) (fun x : S23 => (x.f0, x.f1, x.f2, x.f3, x.f4, x.f5, x.f6, x.f7))
theorem k23_open {w : World} {x : S23} {cs : List Value} (h : k23.K w x cs) : cs = [.int .u8 x.f0, .int .i64 x.f1, .int .i64 x.f2, .int .i64 x.f3, .int .i64 x.f4, .int .i64 x.f5, .bool x.f6, .int .i64 x.f7] := by
  obtain ⟨_, _, rfl, rfl, ⟨_, _, rfl, rfl, ⟨_, _, rfl, rfl, ⟨_, _, rfl, rfl, ⟨_, _, rfl, rfl, ⟨_, _, rfl, rfl, ⟨_, _, rfl, rfl, rfl⟩⟩⟩⟩⟩⟩⟩ := h
  exact rfl
theorem k23_openM {w : World} {base : Nat} {ok : Nat → Prop} {x : S23} {cs : List Value} (h : k23.M w base ok x cs) : cs = [.int .u8 x.f0, .int .i64 x.f1, .int .i64 x.f2, .int .i64 x.f3, .int .i64 x.f4, .int .i64 x.f5, .bool x.f6, .int .i64 x.f7] := by
  obtain ⟨_, _, rfl, rfl, ⟨_, _, rfl, rfl, ⟨_, _, rfl, rfl, ⟨_, _, rfl, rfl, ⟨_, _, rfl, rfl, ⟨_, _, rfl, rfl, ⟨_, _, rfl, rfl, rfl⟩⟩⟩⟩⟩⟩⟩ := h
  exact rfl
theorem k23_mk (w : World) (x : S23)  : k23.K w x [.int .u8 x.f0, .int .i64 x.f1, .int .i64 x.f2, .int .i64 x.f3, .int .i64 x.f4, .int .i64 x.f5, .bool x.f6, .int .i64 x.f7] := ⟨[.int .u8 x.f0], [.int .i64 x.f1, .int .i64 x.f2, .int .i64 x.f3, .int .i64 x.f4, .int .i64 x.f5, .bool x.f6, .int .i64 x.f7], rfl, rfl, ⟨[.int .i64 x.f1], [.int .i64 x.f2, .int .i64 x.f3, .int .i64 x.f4, .int .i64 x.f5, .bool x.f6, .int .i64 x.f7], rfl, rfl, ⟨[.int .i64 x.f2], [.int .i64 x.f3, .int .i64 x.f4, .int .i64 x.f5, .bool x.f6, .int .i64 x.f7], rfl, rfl, ⟨[.int .i64 x.f3], [.int .i64 x.f4, .int .i64 x.f5, .bool x.f6, .int .i64 x.f7], rfl, rfl, ⟨[.int .i64 x.f4], [.int .i64 x.f5, .bool x.f6, .int .i64 x.f7], rfl, rfl, ⟨[.int .i64 x.f5], [.bool x.f6, .int .i64 x.f7], rfl, rfl, ⟨[.bool x.f6], [.int .i64 x.f7], rfl, rfl, rfl⟩⟩⟩⟩⟩⟩⟩
theorem k23_mkM (w : World) (base : Nat) (ok : Nat → Prop) (x : S23)  : k23.M w base ok x [.int .u8 x.f0, .int .i64 x.f1, .int .i64 x.f2, .int .i64 x.f3, .int .i64 x.f4, .int .i64 x.f5, .bool x.f6, .int .i64 x.f7] := ⟨[.int .u8 x.f0], [.int .i64 x.f1, .int .i64 x.f2, .int .i64 x.f3, .int .i64 x.f4, .int .i64 x.f5, .bool x.f6, .int .i64 x.f7], rfl, rfl, ⟨[.int .i64 x.f1], [.int .i64 x.f2, .int .i64 x.f3, .int .i64 x.f4, .int .i64 x.f5, .bool x.f6, .int .i64 x.f7], rfl, rfl, ⟨[.int .i64 x.f2], [.int .i64 x.f3, .int .i64 x.f4, .int .i64 x.f5, .bool x.f6, .int .i64 x.f7], rfl, rfl, ⟨[.int .i64 x.f3], [.int .i64 x.f4, .int .i64 x.f5, .bool x.f6, .int .i64 x.f7], rfl, rfl, ⟨[.int .i64 x.f4], [.int .i64 x.f5, .bool x.f6, .int .i64 x.f7], rfl, rfl, ⟨[.int .i64 x.f5], [.bool x.f6, .int .i64 x.f7], rfl, rfl, ⟨[.bool x.f6], [.int .i64 x.f7], rfl, rfl, rfl⟩⟩⟩⟩⟩⟩⟩
def rd_T23 (xs : List S23) (i : Int) : S23 := xs.getD i.toNat z23
theorem at_T23 {w : World} {A : Option Addr} {n : Nat} {xs : List S23} (h : Kd.C k23 w A n xs) (i : Int) (h0 : 0 ≤ i) (h1 : i < n) : ∃ ad , A = some ad ∧ w.cell? (ad.add (i.toNat * 8)) = some (.int .u8 (rd_T23 xs i).f0) ∧ w.cell? ⟨(ad.add (i.toNat * 8)).block, (ad.add (i.toNat * 8)).off + 1, none⟩ = some (.int .i64 (rd_T23 xs i).f1) ∧ w.cell? ⟨(ad.add (i.toNat * 8)).block, (ad.add (i.toNat * 8)).off + 2, none⟩ = some (.int .i64 (rd_T23 xs i).f2) ∧ w.cell? ⟨(ad.add (i.toNat * 8)).block, (ad.add (i.toNat * 8)).off + 3, none⟩ = some (.int .i64 (rd_T23 xs i).f3) ∧ w.cell? ⟨(ad.add (i.toNat * 8)).block, (ad.add (i.toNat * 8)).off + 4, none⟩ = some (.int .i64 (rd_T23 xs i).f4) ∧ w.cell? ⟨(ad.add (i.toNat * 8)).block, (ad.add (i.toNat * 8)).off + 5, none⟩ = some (.int .i64 (rd_T23 xs i).f5) ∧ w.cell? ⟨(ad.add (i.toNat * 8)).block, (ad.add (i.toNat * 8)).off + 6, none⟩ = some (.bool (rd_T23 xs i).f6) ∧ w.cell? ⟨(ad.add (i.toNat * 8)).block, (ad.add (i.toNat * 8)).off + 7, none⟩ = some (.int .i64 (rd_T23 xs i).f7) := by
  obtain ⟨ad, c, e, _, hK, hc0⟩ := Kd.C_get h z23 i h0 h1
  have hc : ∀ j u, c[j]? = some u → w.cell? (ad.add (i.toNat * 8 + j)) = some u := hc0
  obtain rfl := k23_open hK
  exact ⟨ad, e, hc 0 _ rfl, by rw [← add_field _ _ 1 (by omega)]; exact hc 1 _ rfl, by rw [← add_field _ _ 2 (by omega)]; exact hc 2 _ rfl, by rw [← add_field _ _ 3 (by omega)]; exact hc 3 _ rfl, by rw [← add_field _ _ 4 (by omega)]; exact hc 4 _ rfl, by rw [← add_field _ _ 5 (by omega)]; exact hc 5 _ rfl, by rw [← add_field _ _ 6 (by omega)]; exact hc 6 _ rfl, by rw [← add_field _ _ 7 (by omega)]; exact hc 7 _ rfl⟩

end Go.Proofs.YtppeidopijnnlaaDoor.C
-- PRINTED by print.py (a twelfth state) out of the translation. Not trusted: Lean checks it.
namespace Go.Proofs.YtppeidopijnnlaaDoor.C
open Go.RowKit Go.Proofs.YtppeidopijnnlaaDoorW.PrintWords Go.Proofs.YtppeidopijnnlaaDoorW.PrintLast Go.Proofs.YtppeidopijnnlaaDoorW.PrintMore
attribute [local go_sem] max2_int min2_int max_two min_two max_three min_three max_four min_four   -- for this text's walks alone
set_option linter.unusedVariables false
set_option linter.unusedSimpArgs false

theorem eqA23 (d : Nat) (w : World) (x0 y0 : Int) (x1 y1 : Int) (x2 y2 : Int) (x3 y3 : Int) (x4 y4 : Int) (x5 y5 : Int) (x6 y6 : Bool) (x7 y7 : Int) :
    (Op.equalIn (d + 2) 23 (.agg #[.int .u8 x0, .int .i64 x1, .int .i64 x2, .int .i64 x3, .int .i64 x4, .int .i64 x5, .bool x6, .int .i64 x7]) (.agg #[.int .u8 y0, .int .i64 y1, .int .i64 y2, .int .i64 y3, .int .i64 y4, .int .i64 y5, .bool y6, .int .i64 y7])).run Tryd.prog w = .ok (x0 == y0 && (x1 == y1 && (x2 == y2 && (x3 == y3 && (x4 == y4 && (x5 == y5 && (x6 == y6 && (x7 == y7)))))))) w := by
  refine eqA_of Tryd.underlying23 (by kernel_rfl) ?_
  refine eqf_cons (by rfl) (by go_simp; rfl) (by go_simp; rfl) (by go_simp) ?_
  refine eqf_cons (by rfl) (by go_simp; rfl) (by go_simp; rfl) (by go_simp) ?_
  refine eqf_cons (by rfl) (by go_simp; rfl) (by go_simp; rfl) (by go_simp) ?_
  refine eqf_cons (by rfl) (by go_simp; rfl) (by go_simp; rfl) (by go_simp) ?_
  refine eqf_cons (by rfl) (by go_simp; rfl) (by go_simp; rfl) (by go_simp) ?_
  refine eqf_cons (by rfl) (by go_simp; rfl) (by go_simp; rfl) (by go_simp) ?_
  refine eqf_cons (by rfl) (by go_simp; rfl) (by go_simp; rfl) (by go_simp) ?_
  exact eqf_last (by rfl) (by go_simp; rfl) (by go_simp; rfl) (by go_simp)
end Go.Proofs.YtppeidopijnnlaaDoor.C
