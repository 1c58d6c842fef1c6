/- What a slice of bytes that is handed in holds. -/
import Derived.Test.YtppeidopijnnlaaDoorProg
import Derived.Test.YtppeidopijnnlaaDoorRF
import Derived.Test.YtppeidopijnnlaaDoorWMore
import Derived.Test.YtppeidopijnnlaaDoorWLast
import Derived.Deep.Slices
import Derived.ProofKit
namespace Go.Proofs.YtppeidopijnnlaaDoor.B
open Go.RowKit Go.Proofs.YtppeidopijnnlaaDoorW.PrintWords Go.Proofs.YtppeidopijnnlaaDoorW.PrintLast Go.Proofs.YtppeidopijnnlaaDoorW.PrintMore Go.RF Go.Deep Go.ChangeShapes Go.WideShapes Go.ChangeAt
set_option linter.unusedVariables false
section
variable {H : Type} {enc : TypeId × Value → H} {P : Program} {w : World} {base : Nat} {spare : Nat → Bool} {held : Bool}
theorem open_kint {t : TypeId} {k : IntKind} {fuel : Nat} {cs : List Value} {x : DataW H × List MemPlace} (he : P.underlying t = some (.int k)) (h : DataW.trod enc P w base spare held fuel t cs = some x) : ∃ y, (Kd.int k).K w y cs ∧ (Lit.int k y).wf = true := by
  obtain ⟨n, rfl, _, hw⟩ := DataW.trod_int he h
  exact ⟨n, rfl, hw⟩
theorem open_kslice {α : Type} [Inhabited α] (d : Kd α) (good : α → Prop) {t e : TypeId} {fuel : Nat} {cs : List Value} {x : DataW H × List MemPlace} (ht : P.underlying t = some (.slice e)) (hc : P.cellsOf e = d.sz)
    (hel : ∀ fuel cs x, DataW.trod enc P w base spare held fuel e cs = some x → ∃ y, d.K w y cs ∧ good y) (h : DataW.trod enc P w base spare held fuel t cs = some x) :
    ∃ (A : Option Addr) (c : Nat) (xs : List α), cs = [.slice A xs.length c] ∧ xs.length ≤ c ∧ d.C w A xs.length xs ∧ ∀ y ∈ xs, good y := by
  rcases open_slice ht h with ⟨rfl, _⟩ | ⟨a, len, cap, m, n, D, Pl, rfl, hb, hl, hm, hmm, rfl, hx⟩
  · exact ⟨none, 0, [], rfl, Nat.le_refl _, ⟨rfl, by simp, fun h => by simp at h⟩, fun y hy => by simp at hy⟩
  have hlm : len ≤ m := by rw [hmm]; split <;> omega
  obtain ⟨q, hq⟩ := choose_lt (α := α × List Value) (n := len) (p := fun i y => w.cells? base (a.add (i * P.cellsOf e)) (P.cellsOf e) = some y.2 ∧ d.K w y.1 y.2 ∧ good y.1) (fun i hi => by
    obtain ⟨cs', h1, h2⟩ := hx i (by omega)
    obtain ⟨y, h3, h4⟩ := hel _ _ _ h2
    exact ⟨(y, cs'), h1, h3, h4⟩)
  have hlen : ((List.range len).map fun i => (q i).1).length = len := by simp
  refine ⟨some a, cap, (List.range len).map fun i => (q i).1, by rw [hlen], by rw [hlen]; exact hl, ⟨rfl, by rw [hlen]; unfold maxLen at hm; omega, fun _ => ⟨a, rfl, fun j p hj => ?_⟩⟩, fun y hy => ?_⟩
  · obtain ⟨hjl, rfl⟩ := List.getElem?_eq_some_iff.1 hj
    rw [hlen] at hjl
    obtain ⟨h1, h2, h3⟩ := hq j hjl
    obtain ⟨_, hcl, hcell⟩ := World.cells?_some h1
    refine ⟨(q j).2, by rw [hcl, hc], by simpa using h2, fun i u hu => ?_⟩
    have hi := (List.getElem?_eq_some_iff.1 hu).1
    have e1 := hcell i (by omega)
    rw [Go.Deep.add_add, hc, hu] at e1
    exact e1
  · obtain ⟨i, hi, rfl⟩ := List.mem_map.1 hy
    exact (hq i (List.mem_range.1 hi)).2.2
end
theorem open_bytes {H : Type} {enc : TypeId × Value → H} {w : World} {base : Nat} {spare : Nat → Bool} {held : Bool} {v : Value} {d : DataW H} {ps : List MemPlace} (hv : ∃ a n c, v = .slice a n c) (h : DataW.Trod enc Tryd.prog w base spare held 24 v d ps) :
    ∃ (A : Option Addr) (c : Nat) (l : List Int), v = .slice A l.length c ∧ l.length ≤ c ∧ Kd.C (Kd.int .u8) w A l.length l ∧ ∀ y ∈ l, (Lit.int .u8 y).wf = true := by
  obtain ⟨a, n, c, rfl⟩ := hv
  obtain ⟨fuel, hf⟩ := h
  obtain ⟨A, c', l, hcs, hl, hC, hg⟩ := open_kslice (Kd.int .u8) (fun b => (Lit.int .u8 b).wf = true) Tryd.underlying24 (by kernel_rfl) (fun _ _ _ h => open_kint Tryd.underlying5 h) hf
  have e : Value.slice a n c = .slice A l.length c' := by
    simp [Value.cells] at hcs
    obtain ⟨rfl, rfl, rfl⟩ := hcs
    rfl
  exact ⟨A, c', l, e, hl, hC, hg⟩
end Go.Proofs.YtppeidopijnnlaaDoor.B
