import Derived.Test.YtkpkgpopmodagaaGiven
import Derived.Deep.Slices
import Derived.ProofKit
namespace Go.Proofs.Ytkpkgpopmodagaa.B
open Go.RowKit Go.Proofs.YtkpkgpopmodagaaW.PrintWords Go.Proofs.YtkpkgpopmodagaaW.PrintLast Go.Proofs.YtkpkgpopmodagaaW.PrintMore Go.RF Go.Deep Go.ChangeShapes Go.WideShapes Go.ChangeAt
set_option linter.unusedVariables false
section
variable {H : Type} {enc : TypeId × Value → H} {P : Program} {w : World} {base : Nat} {spare : Nat → Bool} {held : Bool}
theorem open_kint {t : TypeId} {k : IntKind} {fuel : Nat} {cs : List Value} {x : DataW H × List MemPlace} (he : P.underlying t = some (.int k)) (h : DataW.trod enc P w base spare held fuel t cs = some x) : ∃ y, (Kd.int k).K w y cs ∧ (Lit.int k y).wf = true := by
  obtain ⟨n, rfl, _, hw⟩ := DataW.trod_int he h
  exact ⟨n, rfl, hw⟩
theorem open_kslice {α : Type} [Inhabited α] (d : Kd α) (good : α → Prop) {t e : TypeId} {fuel : Nat} {cs : List Value} {x : DataW H × List MemPlace} (ht : P.underlying t = some (.slice e)) (hc : P.cellsOf e = d.sz)
    (hel : ∀ fuel cs x, DataW.trod enc P w base spare held fuel e cs = some x → ∃ y, d.K w y cs ∧ good y) (h : DataW.trod enc P w base spare held fuel t cs = some x) :
    ∃ (A : Option Addr) (c : Nat) (xs : List α), cs = [.slice A xs.length c] ∧ xs.length ≤ c ∧ d.C w A xs.length xs ∧ ∀ y ∈ xs, good y := by
  rcases open_slice ht h with ⟨rfl, _⟩ | ⟨a, len, cap, m, n, D, Pl, rfl, hb, hl, hm, hmm, rfl, hx⟩
  · exact ⟨none, 0, [], rfl, Nat.le_refl _, ⟨rfl, by simp, fun h => by simp at h⟩, fun y hy => by simp at hy⟩
  have hlm : len ≤ m := by rw [hmm]; split <;> omega
  obtain ⟨q, hq⟩ := choose_lt (α := α × List Value) (n := len) (p := fun i y => w.cells? base (a.add (i * P.cellsOf e)) (P.cellsOf e) = some y.2 ∧ d.K w y.1 y.2 ∧ good y.1) (fun i hi => by
    obtain ⟨cs', h1, h2⟩ := hx i (by omega)
    obtain ⟨y, h3, h4⟩ := hel _ _ _ h2
    exact ⟨(y, cs'), h1, h3, h4⟩)
  have hlen : ((List.range len).map fun i => (q i).1).length = len := by simp
  refine ⟨some a, cap, (List.range len).map fun i => (q i).1, by rw [hlen], by rw [hlen]; exact hl, ⟨rfl, by rw [hlen]; unfold maxLen at hm; omega, fun _ => ⟨a, rfl, fun j p hj => ?_⟩⟩, fun y hy => ?_⟩
  · obtain ⟨hjl, rfl⟩ := List.getElem?_eq_some_iff.1 hj
    rw [hlen] at hjl
    obtain ⟨h1, h2, h3⟩ := hq j hjl
    obtain ⟨_, hcl, hcell⟩ := World.cells?_some h1
    refine ⟨(q j).2, by rw [hcl, hc], by simpa using h2, fun i u hu => ?_⟩
    have hi := (List.getElem?_eq_some_iff.1 hu).1
    have e1 := hcell i (by omega)
    rw [Go.Deep.add_add, hc, hu] at e1
    exact e1
  · obtain ⟨i, hi, rfl⟩ := List.mem_map.1 hy
    exact (hq i (List.mem_range.1 hi)).2.2
end
instance : Inhabited S34 := ⟨z34⟩
/-- what holds of a page's numbers -/
def GoodPage (x : S34) : Prop := (Lit.int .u64 x.f0).wf = true ∧ (Lit.int .u8 x.f1).wf = true ∧ ∀ b ∈ x.f2, (Lit.int .u8 b).wf = true
theorem open_page {H : Type} {enc : TypeId × Value → H} {w : World} {base : Nat} {spare : Nat → Bool} {held : Bool} {fuel : Nat} {cs : List Value} {x : DataW H × List MemPlace} (h : DataW.trod enc Try.prog w base spare held fuel 34 cs = some x) :
    ∃ y, k34.K w y cs ∧ GoodPage y := by
  obtain ⟨xs, n, rfl, _, hcl, hxl, hf⟩ := DataW.trod_struct Try.underlying34 h
  have hcl' : cs.length = 3 := hcl
  have hxl' : xs.length = 3 := hxl
  match cs, hcl', xs, hxl' with
  | [v0, v1, v2], _, [y0, y1, y2], _ =>
    have g0 := hf 0 _ rfl
    have g1 := hf 1 _ rfl
    have g2 := hf 2 _ rfl
    have g0' : DataW.trod enc Try.prog w base spare held n 23 [v0] = some y0 := g0
    have g1' : DataW.trod enc Try.prog w base spare held n 5 [v1] = some y1 := g1
    have g2' : DataW.trod enc Try.prog w base spare held n 24 [v2] = some y2 := g2
    obtain ⟨a, ha, wa⟩ := open_kint Try.underlying23 g0'
    obtain ⟨b, hb, wb⟩ := open_kint Try.underlying5 g1'
    obtain ⟨A, c, l, hl, hlc, hC, hg⟩ := open_kslice (Kd.int .u8) (fun b => (Lit.int .u8 b).wf = true) Try.underlying24 (by kernel_rfl) (fun _ _ _ h => open_kint Try.underlying5 h) g2'
    have e0 : v0 = .int .u64 a := by injection ha
    have e1 : v1 = .int .u8 b := by injection hb
    have e2 : v2 = .slice A l.length c := by injection hl
    subst e0; subst e1; subst e2
    exact ⟨⟨a, b, l⟩, k34_mk w ⟨a, b, l⟩ hlc hC, wa, wb, hg⟩
/-- An argument that is pages, opened. -/
theorem open_pages {H : Type} {enc : TypeId × Value → H} {w : World} {base : Nat} {spare : Nat → Bool} {held : Bool} {v : Value} {d : DataW H} {ps : List MemPlace} (hv : ∃ a n c, v = .slice a n c) (h : DataW.Trod enc Try.prog w base spare held 22 v d ps) :
    ∃ (A : Option Addr) (c : Nat) (l : List S34), v = .slice A l.length c ∧ l.length ≤ c ∧ Kd.C k34 w A l.length l ∧ ∀ y ∈ l, GoodPage y := by
  obtain ⟨a, n, c, rfl⟩ := hv
  obtain ⟨fuel, hf⟩ := h
  obtain ⟨A, c', l, hcs, hl, hC, hg⟩ := open_kslice k34 GoodPage Try.underlying22 (by kernel_rfl) (fun _ _ _ h => open_page h) hf
  have e : Value.slice a n c = .slice A l.length c' := by
    simp [Value.cells] at hcs
    obtain ⟨rfl, rfl, rfl⟩ := hcs
    rfl
  exact ⟨A, c', l, e, hl, hC, hg⟩
theorem open_bytes {H : Type} {enc : TypeId × Value → H} {w : World} {base : Nat} {spare : Nat → Bool} {held : Bool} {v : Value} {d : DataW H} {ps : List MemPlace} (hv : ∃ a n c, v = .slice a n c) (h : DataW.Trod enc Try.prog w base spare held 24 v d ps) :
    ∃ (A : Option Addr) (c : Nat) (l : List Int), v = .slice A l.length c ∧ l.length ≤ c ∧ Kd.C (Kd.int .u8) w A l.length l ∧ ∀ y ∈ l, (Lit.int .u8 y).wf = true := by
  obtain ⟨a, n, c, rfl⟩ := hv
  obtain ⟨fuel, hf⟩ := h
  obtain ⟨A, c', l, hcs, hl, hC, hg⟩ := open_kslice (Kd.int .u8) (fun b => (Lit.int .u8 b).wf = true) Try.underlying24 (by kernel_rfl) (fun _ _ _ h => open_kint Try.underlying5 h) hf
  have e : Value.slice a n c = .slice A l.length c' := by
    simp [Value.cells] at hcs
    obtain ⟨rfl, rfl, rfl⟩ := hcs
    rfl
  exact ⟨A, c', l, e, hl, hC, hg⟩
end Go.Proofs.Ytkpkgpopmodagaa.B
