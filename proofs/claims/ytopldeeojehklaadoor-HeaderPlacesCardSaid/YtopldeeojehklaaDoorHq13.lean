/- HeaderBack tells true: the plain law. What the rows of the headers' laws hand in: headers, segments, sections, bytes; the package's tables where they are laid. What the rows of the headers' laws hand in, opened: bytes, segments, sections, headers. A segment, a section that is handed in. HeaderPlaces tells true: the plain law. -/
import Derived.Test.YtopldeeojehklaaDoorHq5
import Derived.Test.YtopldeeojehklaaDoorHq11
import Derived.Test.YtopldeeojehklaaDoorHq12
import Derived.Test.YtopldeeojehklaaDoorRows
import Derived.ProofKit
import Derived.OpenShut
import Derived.LaidLaws
import Derived.Lib.LaidTab
import Derived.ChangeSame
import Derived.Deep.Slices
namespace Go.Proofs.YtopldeeojehklaaDoor.B
open Go.RowKit Go.Proofs.YtopldeeojehklaaDoorW.PrintWords Go.Proofs.YtopldeeojehklaaDoorW.PrintLast Go.Proofs.YtopldeeojehklaaDoorW.PrintMore
attribute [local go_sem] max2_int min2_int max_two min_two max_three min_three max_four min_four   -- for this text's walks alone
set_option linter.unusedVariables false
set_option linter.unusedSimpArgs false
attribute [local go_sem high] eqA30 eqA32
end Go.Proofs.YtopldeeojehklaaDoor.B
namespace Go.Proofs.YtopldeeojehklaaDoor.B
open Go.RowKit Go.Proofs.YtopldeeojehklaaDoorW.PrintWords Go.Proofs.YtopldeeojehklaaDoorW.PrintMore Go.RF
set_option linter.unusedVariables false
set_option linter.unusedSimpArgs false
theorem wakes_f : sundiallaw03_wakes.f = some true := by
  unfold sundiallaw03_wakes.f header_Read.f header_Head.f header_Segment.f header_Section.f
  rw [G.Read_eq, if_pos (by decide), Option.bind_some, G.Head_eq, Option.bind_some, G.Read_eq, if_pos (by show BB (headP 7 0 0 0 0); decide), Option.bind_some, if_pos (by decide), G.Read_eq, if_pos (by decide), Option.bind_some, G.Segment_eq, Option.bind_some, G.Section_eq, Option.bind_some]
  have e1 : readP [] = (0, 0, 0, [], [], 30) := by kernel_rfl
  have e2 : readP (headP 7 0 0 ([] : List S30).length ([] : List S32).length) = (7, 0, 0, [], [], 0) := wakes_read
  have e3 : readP (List.replicate 64 0) = (0, 0, 0, [], [], 31) := by kernel_rfl
  have e4 : (segP 0 0 0 0 0 0 0).length = 56 := by rw [segP_list]; rfl
  have e5 : (secP 0 0 0 0 0).length = 64 := by rw [secP_list]; rfl
  rw [e1, e2, e3, e4, e5]
  rfl
theorem BB_append {l r : List Int} (h1 : BB l) (h2 : BB r) : BB (l ++ r) := by
  intro x hx
  rcases List.mem_append.1 hx with h | h
  · exact h1 x h
  · exact h2 x h
theorem b2_BB (x : Int) : BB (b2 x) := bytesN_BB x 2
theorem b8_BB (x : Int) : BB (b8 x) := bytesN_BB x 8
theorem headP_BB (a0 a1 a2 : Int) (n m : Nat) : BB (headP a0 a1 a2 n m) := by
  rw [headP_list]
  exact BB_append (by decide) (BB_append (b8_BB _) (BB_append (b8_BB _) (BB_append (b8_BB _) (BB_append (by decide) (BB_append (b2_BB _) (BB_append (by decide) (BB_append (b2_BB _) (by decide))))))))
end Go.Proofs.YtopldeeojehklaaDoor.B
namespace Go.Proofs.YtopldeeojehklaaDoor.R
open Go.RowKit Go.Deep Go.ChangeShapes Go.WideShapes Go.ChangeAt Go.Lib Go.Proofs.YtopldeeojehklaaDoorW.PrintWords Go.Proofs.YtopldeeojehklaaDoorW.PrintLast Go.Proofs.YtopldeeojehklaaDoorW.PrintMore Go.Proofs.YtopldeeojehklaaDoor.B Go.RF
set_option linter.unusedVariables false
theorem laid_read {P : Program} {w : World} : ∀ {l : List (String × DataW Unit)} {ps : List MemPlace}, DataW.LaidVars P w l ps → ∀ n d, (n, d) ∈ l →
    ∃ g t cs fuel p, P.globalNamed n = some g ∧ (P.globals[g]?).map (·.type) = some t ∧ w.var? P n = some cs ∧ DataW.trod (fun _ => ()) P w 0 (fun _ => true) false fuel t cs.toList = some (d, p)
  | [], _, _, _, _, hm => by cases hm
  | (n', d') :: r, ps, h, n, d, hm => by
    obtain ⟨g, t, cs, fuel, p, q, h1, h2, h3, h4, h5, _⟩ := h
    rcases List.mem_cons.1 hm with e | e
    · cases e
      exact ⟨g, t, cs, fuel, p, h1, h2, h3, h4⟩
    · exact laid_read h5 n d e
theorem laid_cells {P : Program} {w : World} {l : List (String × DataW Unit)} {name : String} {D : DataW Unit} {g t : Nat} (hL : laidMet P l w) (hm : (name, D) ∈ l) (hg : P.globalNamed name = some g) (htt : (P.globals[g]?).map (·.type) = some t) :
    ∃ c tt fr fuel p, w.heap[g]? = some (.cells c tt fr) ∧ DataW.trod (fun _ => ()) P w 0 (fun _ => true) false fuel t c.toList = some (D, p) := by
  obtain ⟨ps, hv, -⟩ := hL
  obtain ⟨g', t', cs, fuel, p, h1, h2, h3, h4⟩ := laid_read hv _ _ hm
  obtain rfl : g' = g := Option.some.inj (h1.symm.trans hg)
  obtain rfl : t' = t := Option.some.inj (h2.symm.trans htt)
  unfold World.var? at h3
  rw [hg] at h3
  simp only [Option.bind_some] at h3
  cases hh : w.heap[g']? with
  | none => rw [hh] at h3; simp at h3
  | some o =>
    rw [hh] at h3
    cases o with
    | cells c tt fr =>
      simp only [Option.some.injEq] at h3
      subst h3
      exact ⟨c, tt, fr, fuel, p, rfl, h4⟩
    | _ => simp at h3
section
variable {H : Type} {enc : TypeId × Value → H} {w : World} {base : Nat} {sp : Nat → Bool} {held : Bool} {fuel : Nat} {cs : List Value}
theorem flat_int {P : Program} {t : TypeId} {k : IntKind} {y : DataW H × List MemPlace} {a : Int} (ht : P.underlying t = some (.int k)) (h : DataW.trod enc P w base sp held fuel t cs = some y) (he : y.1 = .lit (.int k a)) : cs = [.int k a] := by
  obtain ⟨n, rfl, rfl, _⟩ := DataW.trod_int ht h
  injection he with he
  injection he with _ he
  rw [he]
theorem flat57 {a b : Int} {y : DataW H × List MemPlace} (h : DataW.trod enc Tryd.prog w base sp held fuel 57 cs = some y) (he : y.1 = .agg [.lit (.int .i64 a), .lit (.int .i64 b)]) : cs = [.int .i64 a, .int .i64 b] := by
  obtain ⟨xs, n, _, rfl, hcl, hxl, hF⟩ := DataW.trod_struct Tryd.underlying57 h
  have hcl' : cs.length = 2 := hcl
  have hxl' : xs.length = 2 := hxl
  match cs, hcl', xs, hxl' with
  | [v0, v1], _, [y0, y1], _ =>
    have g0 : DataW.trod enc Tryd.prog w base sp held n 3 [v0] = some y0 := hF 0 _ rfl
    have g1 : DataW.trod enc Tryd.prog w base sp held n 3 [v1] = some y1 := hF 1 _ rfl
    injection he with he
    injection he with e0 he
    injection he with e1 _
    have h0 := flat_int Tryd.underlying3 g0 e0
    have h1 := flat_int Tryd.underlying3 g1 e1
    injection h0 with h0 _
    injection h1 with h1 _
    rw [h0, h1]
theorem flat68 {a b z : Int} {y : DataW H × List MemPlace} (h : DataW.trod enc Tryd.prog w base sp held fuel 68 cs = some y) (he : y.1 = .agg [.agg [.lit (.int .i64 a), .lit (.int .i64 b)], .lit (.int .u64 z)]) : cs = [.int .i64 a, .int .i64 b, .int .u64 z] := by
  obtain ⟨xs, n, _, rfl, hcl, hxl, hF⟩ := DataW.trod_struct Tryd.underlying68 h
  have hcl' : cs.length = 3 := hcl
  have hxl' : xs.length = 2 := hxl
  match cs, hcl', xs, hxl' with
  | [v0, v1, v2], _, [y0, y1], _ =>
    have g0 : DataW.trod enc Tryd.prog w base sp held n 57 [v0, v1] = some y0 := hF 0 _ rfl
    have g1 : DataW.trod enc Tryd.prog w base sp held n 23 [v2] = some y1 := hF 1 _ rfl
    injection he with he
    injection he with e0 he
    injection he with e1 _
    have h0 := flat57 g0 e0
    have h1 := flat_int Tryd.underlying23 g1 e1
    injection h0 with h0 h0'
    injection h0' with h0' _
    injection h1 with h1 _
    rw [h0, h0', h1]
theorem arr_at {P : Program} {t e : TypeId} {n sz : Nat} {ds : List (DataW H)} {p : List MemPlace} (ht : P.underlying t = some (.array n e)) (hce : P.cellsOf e = sz) (hct : P.cellsOf t = n * sz) (h : DataW.trod enc P w base sp held fuel t cs = some (.agg ds, p)) :
    cs.length = n * sz ∧ ∀ i d, ds[i]? = some d → ∃ f y, DataW.trod enc P w base sp held f e ((cs.drop (i * sz)).take sz) = some y ∧ y.1 = d := by
  cases fuel with
  | zero => simp [DataW.trod] at h
  | succ fuel =>
    simp only [DataW.trod, ht, hce, hct] at h
    split at h
    · rename_i hl
      obtain ⟨xs, hm, hx⟩ := Option.map_eq_some_iff.1 h
      have hxs : xs.map (·.1) = ds := by
        have := congrArg Prod.fst hx
        injection this
      have hxl : xs.length = n := by simpa using mapM_length hm
      refine ⟨hl, fun i d hd => ?_⟩
      have hi : i < n := by
        have := (List.getElem?_eq_some_iff.1 hd).1
        rw [← hxs] at this
        simpa [hxl] using this
      obtain ⟨b, hb, hf⟩ := mapM_at hm i i (by simp [hi])
      refine ⟨_, b, hf, ?_⟩
      rw [← hxs, List.getElem?_map, hb] at hd
      exact Option.some.inj hd
    · cases h
end
theorem chunk {L X : List Value} {k m r : Nat} (h : (L.drop k).take m = X) (hr : r < m) : L[k + r]? = X[r]? := by
  rw [← h, List.getElem?_take, if_pos hr, List.getElem?_drop]
theorem cell_arr {w : World} {g : Nat} {c : Array Value} {tt : TypeId} {fr : Nat × Nat} (h : w.heap[g]? = some (.cells c tt fr)) (k : Nat) (v : Value) (hv : c.toList[k]? = some v) : w.cell? ⟨g, k, none⟩ = some v := by
  have : c[k]? = some v := by simpa using hv
  unfold World.cell?
  rw [h]
  simp [this]
theorem tab57 {w : World} {g t n : Nat} {l : List (String × DataW Unit)} {name : String} {ds : List (DataW Unit)} {F : List (Nat × Nat)} (hL : laidMet Tryd.prog l w) (hm : (name, .agg ds) ∈ l) (hg : Tryd.prog.globalNamed name = some g) (htt : (Tryd.prog.globals[g]?).map (·.type) = some t)
    (ht : Tryd.prog.underlying t = some (.array n 57)) (hct : Tryd.prog.cellsOf t = n * 2) (hd : ds = F.map fun f => .agg [.lit (.int .i64 (f.1 : Int)), .lit (.int .i64 (f.2 : Int))]) : FTab w g F ∧ g < w.heap.size := by
  obtain ⟨c, tt, fr, fuel, p, hh, h⟩ := laid_cells hL hm hg htt
  obtain ⟨_, ha⟩ := arr_at ht (by kernel_rfl) hct h
  refine ⟨fun i f hf => ?_, (Array.getElem?_eq_some_iff.1 hh).1⟩
  obtain ⟨f', y, h1, h2⟩ := ha i (.agg [.lit (.int .i64 (f.1 : Int)), .lit (.int .i64 (f.2 : Int))]) (by rw [hd, List.getElem?_map, hf]; rfl)
  have e := flat57 h1 h2
  exact ⟨cell_arr hh _ _ (chunk (r := 0) e (by decide)), cell_arr hh _ _ (chunk (r := 1) e (by decide))⟩
theorem drop3 {L X : List Value} {k : Nat} (h : (L.drop k).take 3 = X) : L.drop k = X ++ L.drop (k + 3) := by
  rw [← h, ← List.drop_drop]
  exact (List.take_append_drop 3 _).symm
abbrev LL : List (String × DataW Unit) := [("sundial/header.must", Rows.laid_sundial_header_must), ("sundial/header.places", Rows.laid_sundial_header_places), ("sundial/header.segment", Rows.laid_sundial_header_segment), ("sundial/header.section", Rows.laid_sundial_header_section)]
theorem must_of {w : World} (hL : laidMet Tryd.prog LL w) : MustB w := by
  obtain ⟨c, tt, fr, fuel, p, hh, h⟩ := laid_cells (t := 69) (g := 1) hL (.head _) (by kernel_rfl) (by kernel_rfl)
  obtain ⟨hl, ha⟩ := arr_at (n := 8) (e := 68) (sz := 3) (by kernel_rfl) (by kernel_rfl) (by kernel_rfl) h
  have k : ∀ (i : Nat) (a b z : Int), _ → (c.toList.drop (i * 3)).take 3 = [.int .i64 a, .int .i64 b, .int .u64 z] := fun i a b z hd => by
    obtain ⟨f', y, h1, h2⟩ := ha i (.agg [.agg [.lit (.int .i64 a), .lit (.int .i64 b)], .lit (.int .u64 z)]) hd
    exact flat68 h1 h2
  have d0 := drop3 (k 0 4 1 2 rfl)
  have d1 := drop3 (k 1 5 1 1 rfl)
  have d2 := drop3 (k 2 6 1 1 rfl)
  have d3 := drop3 (k 3 16 2 2 rfl)
  have d4 := drop3 (k 4 18 2 62 rfl)
  have d5 := drop3 (k 5 20 4 1 rfl)
  have d6 := drop3 (k 6 48 4 0 rfl)
  have d7 := drop3 (k 7 52 2 64 rfl)
  have d8 : c.toList.drop (7 * 3 + 3) = [] := List.drop_of_length_le (by omega)
  have e : c.toList = mustV.toList := by
    have := d0
    rw [show (0 * 3 + 3 : Nat) = 1 * 3 from rfl, d1, show (1 * 3 + 3 : Nat) = 2 * 3 from rfl, d2, show (2 * 3 + 3 : Nat) = 3 * 3 from rfl, d3, show (3 * 3 + 3 : Nat) = 4 * 3 from rfl, d4, show (4 * 3 + 3 : Nat) = 5 * 3 from rfl, d5, show (5 * 3 + 3 : Nat) = 6 * 3 from rfl, d6, show (6 * 3 + 3 : Nat) = 7 * 3 from rfl, d7, d8] at this
    exact this
  refine ⟨tt, fr, ?_⟩
  rw [hh, show c = mustV from Array.toList_inj.1 e]
theorem laid_of {w : World} (_ : ("sundial/header.must", (Rows.laid_sundial_header_must : DataW Unit)) ∈ LL) (hL : laidMet Tryd.prog LL w) : Tab w := by
  have p := tab57 (F := placesF) (t := 58) (n := 7) (g := 0) hL (.tail _ (.head _)) (by kernel_rfl) (by kernel_rfl) (by kernel_rfl) (by kernel_rfl) rfl
  have s := tab57 (F := segF) (t := 58) (n := 7) (g := 2) hL (.tail _ (.tail _ (.head _))) (by kernel_rfl) (by kernel_rfl) (by kernel_rfl) (by kernel_rfl) rfl
  have c := tab57 (F := secF) (t := 72) (n := 5) (g := 3) hL (.tail _ (.tail _ (.tail _ (.head _)))) (by kernel_rfl) (by kernel_rfl) (by kernel_rfl) (by kernel_rfl) rfl
  exact ⟨p.1, must_of hL, s.1, c.1, c.2⟩
end Go.Proofs.YtopldeeojehklaaDoor.R
namespace Go.Proofs.YtopldeeojehklaaDoor.R
open Go.RowKit Go.Deep Go.ChangeShapes Go.WideShapes Go.ChangeAt Go.Lib Go.Proofs.YtopldeeojehklaaDoorW.PrintWords Go.Proofs.YtopldeeojehklaaDoorW.PrintLast Go.Proofs.YtopldeeojehklaaDoorW.PrintMore Go.Proofs.YtopldeeojehklaaDoor.B Go.RF
set_option linter.unusedVariables false
section
variable {H : Type} {enc : TypeId × Value → H} {P : Program} {w : World} {base : Nat} {spare : Nat → Bool} {held : Bool}
theorem open_kint {t : TypeId} {k : IntKind} {fuel : Nat} {cs : List Value} {x : DataW H × List MemPlace} (he : P.underlying t = some (.int k)) (h : DataW.trod enc P w base spare held fuel t cs = some x) : ∃ y, (Kd.int k).K w y cs ∧ (Lit.int k y).wf = true := by
  obtain ⟨n, rfl, _, hw⟩ := DataW.trod_int he h
  exact ⟨n, rfl, hw⟩
end
instance : Inhabited S30 := ⟨⟨0, 0, 0, 0, 0, 0, 0⟩⟩
instance : Inhabited S32 := ⟨⟨0, 0, 0, 0, 0⟩⟩
theorem rg_wf {x : Int} (h : (Lit.int .u64 x).wf = true) : Rg x := by
  have h : IntKind.u64.min ≤ x ∧ x ≤ IntKind.u64.max := by simpa [Lit.wf] using h
  have e0 : IntKind.u64.min = 0 := by decide
  have e1 : IntKind.u64.max = 18446744073709551615 := by decide
  unfold Rg
  omega
theorem g32_wf {x : Int} (h : (Lit.int .u32 x).wf = true) : G32 x := by
  have h : IntKind.u32.min ≤ x ∧ x ≤ IntKind.u32.max := by simpa [Lit.wf] using h
  have e0 : IntKind.u32.min = 0 := by decide
  have e1 : IntKind.u32.max = 4294967295 := by decide
  unfold G32
  omega
section
variable {H : Type} {enc : TypeId × Value → H} {w : World} {base : Nat} {spare : Nat → Bool} {held : Bool}
theorem open_seg {fuel : Nat} {cs : List Value} {x : DataW H × List MemPlace} (h : DataW.trod enc Tryd.prog w base spare held fuel 30 cs = some x) :
    ∃ y : S30, k30.K w y cs ∧ GoodSeg y := by
  obtain ⟨xs, n, rfl, _, hcl, hxl, hf⟩ := DataW.trod_struct Tryd.underlying30 h
  have hcl' : cs.length = 7 := hcl
  have hxl' : xs.length = 7 := hxl
  match cs, hcl', xs, hxl' with
  | [v0, v1, v2, v3, v4, v5, v6], _, [y0, y1, y2, y3, y4, y5, y6], _ =>
    have g0 : DataW.trod enc Tryd.prog w base spare held n 28 [v0] = some y0 := hf 0 _ rfl
    have g1 : DataW.trod enc Tryd.prog w base spare held n 28 [v1] = some y1 := hf 1 _ rfl
    have g2 : DataW.trod enc Tryd.prog w base spare held n 23 [v2] = some y2 := hf 2 _ rfl
    have g3 : DataW.trod enc Tryd.prog w base spare held n 23 [v3] = some y3 := hf 3 _ rfl
    have g4 : DataW.trod enc Tryd.prog w base spare held n 23 [v4] = some y4 := hf 4 _ rfl
    have g5 : DataW.trod enc Tryd.prog w base spare held n 23 [v5] = some y5 := hf 5 _ rfl
    have g6 : DataW.trod enc Tryd.prog w base spare held n 23 [v6] = some y6 := hf 6 _ rfl
    obtain ⟨a0, h0, w0⟩ := open_kint Tryd.underlying28 g0
    obtain ⟨a1, h1, w1⟩ := open_kint Tryd.underlying28 g1
    obtain ⟨a2, h2, w2⟩ := open_kint Tryd.underlying23 g2
    obtain ⟨a3, h3, w3⟩ := open_kint Tryd.underlying23 g3
    obtain ⟨a4, h4, w4⟩ := open_kint Tryd.underlying23 g4
    obtain ⟨a5, h5, w5⟩ := open_kint Tryd.underlying23 g5
    obtain ⟨a6, h6, w6⟩ := open_kint Tryd.underlying23 g6
    exact ⟨⟨a0, a1, a2, a3, a4, a5, a6⟩, ⟨[v0], [v1, v2, v3, v4, v5, v6], rfl, h0, [v1], [v2, v3, v4, v5, v6], rfl, h1, [v2], [v3, v4, v5, v6], rfl, h2, [v3], [v4, v5, v6], rfl, h3, [v4], [v5, v6], rfl, h4, [v5], [v6], rfl, h5, h6⟩,
      g32_wf w0, g32_wf w1, rg_wf w2, rg_wf w3, rg_wf w4, rg_wf w5, rg_wf w6⟩
theorem open_sec {fuel : Nat} {cs : List Value} {x : DataW H × List MemPlace} (h : DataW.trod enc Tryd.prog w base spare held fuel 32 cs = some x) :
    ∃ y : S32, k32.K w y cs ∧ GoodSec y := by
  obtain ⟨xs, n, rfl, _, hcl, hxl, hf⟩ := DataW.trod_struct Tryd.underlying32 h
  have hcl' : cs.length = 5 := hcl
  have hxl' : xs.length = 5 := hxl
  match cs, hcl', xs, hxl' with
  | [v0, v1, v2, v3, v4], _, [y0, y1, y2, y3, y4], _ =>
    have g0 : DataW.trod enc Tryd.prog w base spare held n 28 [v0] = some y0 := hf 0 _ rfl
    have g1 : DataW.trod enc Tryd.prog w base spare held n 23 [v1] = some y1 := hf 1 _ rfl
    have g2 : DataW.trod enc Tryd.prog w base spare held n 23 [v2] = some y2 := hf 2 _ rfl
    have g3 : DataW.trod enc Tryd.prog w base spare held n 28 [v3] = some y3 := hf 3 _ rfl
    have g4 : DataW.trod enc Tryd.prog w base spare held n 23 [v4] = some y4 := hf 4 _ rfl
    obtain ⟨a0, h0, w0⟩ := open_kint Tryd.underlying28 g0
    obtain ⟨a1, h1, w1⟩ := open_kint Tryd.underlying23 g1
    obtain ⟨a2, h2, w2⟩ := open_kint Tryd.underlying23 g2
    obtain ⟨a3, h3, w3⟩ := open_kint Tryd.underlying28 g3
    obtain ⟨a4, h4, w4⟩ := open_kint Tryd.underlying23 g4
    exact ⟨⟨a0, a1, a2, a3, a4⟩, ⟨[v0], [v1, v2, v3, v4], rfl, h0, [v1], [v2, v3, v4], rfl, h1, [v2], [v3, v4], rfl, h2, [v3], [v4], rfl, h3, h4⟩, g32_wf w0, rg_wf w1, rg_wf w2, g32_wf w3, rg_wf w4⟩
end
end Go.Proofs.YtopldeeojehklaaDoor.R
namespace Go.Proofs.YtopldeeojehklaaDoor.R
open Go.RowKit Go.Deep Go.ChangeShapes Go.WideShapes Go.ChangeAt Go.Lib Go.Proofs.YtopldeeojehklaaDoorW.PrintWords Go.Proofs.YtopldeeojehklaaDoorW.PrintLast Go.Proofs.YtopldeeojehklaaDoorW.PrintMore Go.Proofs.YtopldeeojehklaaDoor.B Go.RF
set_option linter.unusedVariables false
theorem k30_open {w : World} {t : S30} {cs : List Value} (h : k30.K w t cs) : cs = [.int .u32 t.f0, .int .u32 t.f1, .int .u64 t.f2, .int .u64 t.f3, .int .u64 t.f4, .int .u64 t.f5, .int .u64 t.f6] := by
  obtain ⟨c0, d0, rfl, h0, c1, d1, rfl, h1, c2, d2, rfl, h2, c3, d3, rfl, h3, c4, d4, rfl, h4, c5, d5, rfl, h5, h6⟩ := h
  have h0 : c0 = [.int .u32 t.f0] := h0
  have h1 : c1 = [.int .u32 t.f1] := h1
  have h2 : c2 = [.int .u64 t.f2] := h2
  have h3 : c3 = [.int .u64 t.f3] := h3
  have h4 : c4 = [.int .u64 t.f4] := h4
  have h5 : c5 = [.int .u64 t.f5] := h5
  have h6 : d5 = [.int .u64 t.f6] := h6
  subst h0; subst h1; subst h2; subst h3; subst h4; subst h5; subst h6
  rfl
theorem k32_open {w : World} {t : S32} {cs : List Value} (h : k32.K w t cs) : cs = [.int .u32 t.f0, .int .u64 t.f1, .int .u64 t.f2, .int .u32 t.f3, .int .u64 t.f4] := by
  obtain ⟨c0, d0, rfl, h0, c1, d1, rfl, h1, c2, d2, rfl, h2, c3, d3, rfl, h3, h4⟩ := h
  have h0 : c0 = [.int .u32 t.f0] := h0
  have h1 : c1 = [.int .u64 t.f1] := h1
  have h2 : c2 = [.int .u64 t.f2] := h2
  have h3 : c3 = [.int .u32 t.f3] := h3
  have h4 : d3 = [.int .u64 t.f4] := h4
  subst h0; subst h1; subst h2; subst h3; subst h4
  rfl
section
variable {H : Type} {enc : TypeId × Value → H} {w : World} {base : Nat} {spare : Nat → Bool} {held : Bool}
theorem st_seg {v : Value} {d : DataW H} {ps : List MemPlace} (hv : ∃ cs, v = .agg cs ∧ cs.size = Tryd.prog.cellsOf 30) (h : DataW.Trod enc Tryd.prog w base spare held 30 v d ps) :
    ∃ a0 a1 a2 a3 a4 a5 a6, v = .agg #[.int .u32 a0, .int .u32 a1, .int .u64 a2, .int .u64 a3, .int .u64 a4, .int .u64 a5, .int .u64 a6] ∧ GoodSeg ⟨a0, a1, a2, a3, a4, a5, a6⟩ := by
  obtain ⟨⟨cs⟩, rfl, hsz⟩ := hv
  obtain ⟨fuel, hf⟩ := h
  have hf' : DataW.trod enc Tryd.prog w base spare held fuel 30 cs = some (d, ps) := hf
  obtain ⟨y, hK, hg⟩ := open_seg hf'
  have e := k30_open hK
  subst e
  exact ⟨_, _, _, _, _, _, _, rfl, hg⟩
theorem st_sec {v : Value} {d : DataW H} {ps : List MemPlace} (hv : ∃ cs, v = .agg cs ∧ cs.size = Tryd.prog.cellsOf 32) (h : DataW.Trod enc Tryd.prog w base spare held 32 v d ps) :
    ∃ a0 a1 a2 a3 a4, v = .agg #[.int .u32 a0, .int .u64 a1, .int .u64 a2, .int .u32 a3, .int .u64 a4] ∧ GoodSec ⟨a0, a1, a2, a3, a4⟩ := by
  obtain ⟨⟨cs⟩, rfl, hsz⟩ := hv
  obtain ⟨fuel, hf⟩ := h
  have hf' : DataW.trod enc Tryd.prog w base spare held fuel 32 cs = some (d, ps) := hf
  obtain ⟨y, hK, hg⟩ := open_sec hf'
  have e := k32_open hK
  subst e
  exact ⟨_, _, _, _, _, rfl, hg⟩
end
end Go.Proofs.YtopldeeojehklaaDoor.R
namespace Go.Proofs.YtopldeeojehklaaDoor.B
open Go.RowKit Go.Proofs.YtopldeeojehklaaDoorW.PrintWords Go.Proofs.YtopldeeojehklaaDoorW.PrintLast Go.Proofs.YtopldeeojehklaaDoorW.PrintMore
attribute [local go_sem] max2_int min2_int max_two min_two max_three min_three max_four min_four   -- for this text's walks alone
set_option linter.unusedVariables false
set_option linter.unusedSimpArgs false
noncomputable def sundiallaw03_HeaderPlaces.j0 : Nat → Int → Int → Int → Bool → Int → Int → Int → Int → Int → Int → Int → Int → Int → Int → Int → Int → Option (Bool)
  | 0, _, _, _, _, _, _, _, _, _, _, _, _, _, _, _, _ => none
  | k + 1, x2, x3, x4, x21, x554000, x554001, x554002, x554003, x554004, x554005, x554006, x555000, x555001, x555002, x555003, x555004 => if x21 = true then ((sundiallaw03_wakes.f).bind fun t555 => (some t555)) else ((header_Head.f 0 x2 x3 (([(⟨x554000, x554001, x554002, x554003, x554004, x554005, x554006⟩ : S30)] : List (S30))) (([(⟨x555000, x555001, x555002, x555003, x555004⟩ : S32)] : List (S32)))).bind fun t563 => (if 0 ≤ (wrap64 (x4 - 64)) then (if t563.length + (wrap64 (x4 - 64) : Int).toNat < 140737488355328 then ((header_Read.f (t563 ++ List.replicate (wrap64 (x4 - 64) : Int).toNat 0)).bind fun bt569 => (if x4 ≥ 64 then (if x2 ≤ (IntKind.u64.wrap (x4)) then (if (IntKind.u64.wrap ((IntKind.u64.wrap (x4)) - x2)) ≥ 56 then (if x3 ≤ (IntKind.u64.wrap (x4)) then (if ((bt569.2.2.2.2.2 == 0) == (decide ((IntKind.u64.wrap ((IntKind.u64.wrap (x4)) - x3)) ≥ 64))) = true then (if (IntKind.u64.wrap ((IntKind.u64.wrap (x4)) - x3)) ≥ 64 then (if ((IntKind.u64.wrap ((IntKind.u64.wrap (x4)) - x3)) ≥ 64) then (if bt569.2.1 = x2 then (if bt569.2.2.1 = x3 then (if (bt569.2.2.2.1.length : Int) = 1 then (if (bt569.2.2.2.2.1.length : Int) = 1 then ((sundiallaw03_wakes.f).bind fun t580 => (some t580)) else (some false)) else (some false)) else (some false)) else (some false)) else ((sundiallaw03_wakes.f).bind fun t581 => (some t581))) else (if bt569.2.2.2.2.2 = 33 then (if ((IntKind.u64.wrap ((IntKind.u64.wrap (x4)) - x3)) ≥ 64) then (if bt569.2.1 = x2 then (if bt569.2.2.1 = x3 then (if (bt569.2.2.2.1.length : Int) = 1 then (if (bt569.2.2.2.2.1.length : Int) = 1 then ((sundiallaw03_wakes.f).bind fun t582 => (some t582)) else (some false)) else (some false)) else (some false)) else (some false)) else ((sundiallaw03_wakes.f).bind fun t583 => (some t583))) else (some false))) else (some false)) else (if ((bt569.2.2.2.2.2 == 0) == false) = true then (if bt569.2.2.2.2.2 = 33 then ((sundiallaw03_wakes.f).bind fun t584 => (some t584)) else (some false)) else (some false))) else (if ((bt569.2.2.2.2.2 == 0) == false) = true then (if bt569.2.2.2.2.2 = 33 then ((sundiallaw03_wakes.f).bind fun t585 => (some t585)) else (some false)) else (some false))) else (if ((bt569.2.2.2.2.2 == 0) == false) = true then (if bt569.2.2.2.2.2 = 33 then ((sundiallaw03_wakes.f).bind fun t586 => (some t586)) else (some false)) else (some false))) else (if ((bt569.2.2.2.2.2 == 0) == false) = true then (if bt569.2.2.2.2.2 = 33 then ((sundiallaw03_wakes.f).bind fun t587 => (some t587)) else (some false)) else (some false)))) else (none)) else (none)))
noncomputable def sundiallaw03_HeaderPlaces.f (k : Nat) (a0_0 : Int) (a0_1 : Int) (a0_2 : Int) (a0_3 : Int) (a0_4 : Int) (a0_5 : Int) (a0_6 : Int) (a1_0 : Int) (a1_1 : Int) (a1_2 : Int) (a1_3 : Int) (a1_4 : Int) (a2 : Int) (a3 : Int) (a4 : Int) : Option (Bool) := if a4 < 64 then (sundiallaw03_HeaderPlaces.j0 k a2 a3 a4 true a0_0 a0_1 a0_2 a0_3 a0_4 a0_5 a0_6 a1_0 a1_1 a1_2 a1_3 a1_4) else (sundiallaw03_HeaderPlaces.j0 k a2 a3 a4 (decide (a4 > 6000)) a0_0 a0_1 a0_2 a0_3 a0_4 a0_5 a0_6 a1_0 a1_1 a1_2 a1_3 a1_4)
end Go.Proofs.YtopldeeojehklaaDoor.B
namespace Go.Proofs.YtopldeeojehklaaDoor.B
open Go.RowKit Go.Proofs.YtopldeeojehklaaDoorW.PrintWords Go.Proofs.YtopldeeojehklaaDoorW.PrintMore Go.RF
set_option linter.unusedVariables false
set_option linter.unusedSimpArgs false
def oneP (s c : Int) (n : Nat) : List Int := headP 0 s c 1 1 ++ List.replicate n 0
theorem one_len (s c : Int) (n : Nat) : (oneP s c n).length = 64 + n := by unfold oneP; rw [List.length_append, head_len, List.length_replicate]
theorem one_BB (s c : Int) (n : Nat) : BB (oneP s c n) := BB_append (headP_BB _ _ _ _ _) (fun x hx => by
  obtain ⟨_, rfl⟩ := List.mem_replicate.1 hx
  decide)
theorem read_one (s c : Int) (n : Nat) (hs : Rg s) (hc : Rg c) (hn : n ≤ 10000) :
    readP (oneP s c n) = if ((64 + n : Nat) : Int) < s + 56 ∨ ((64 + n : Nat) : Int) < c + 64 then (0, 0, 0, [], [], 33) else (0, s, c, segsP (oneP s c n) s.toNat 1, secsP (oneP s c n) c.toNat 1, 0) := by
  have hl := one_len s c n
  obtain ⟨p0, p1, p2, p3, p4, p5, p6⟩ := pl_obj 0 s c 1 1 ⟨by decide, by decide⟩ hs hc (by decide) (by decide) (List.replicate n 0)
  have hO : oneP s c n = headP 0 s c 1 1 ++ List.replicate n 0 := rfl
  have hr1 : rightP (oneP s c n) = true := by
    unfold rightP
    rw [hO, p3, p4, p5, p6, head_must]
    unfold right0
    decide
  unfold readP
  rw [if_neg (by omega), if_neg (by omega), if_neg (by rw [hO, head_elf]; exact fun h => h rfl), if_neg (by rw [hr1]; decide), hO, p0, p1, p2, p3, p4, ← hO, hl]
  have t3 : (((1 : Nat) : Int)).toNat = 1 := rfl
  have h0 := hs.1
  have h1 := hc.1
  rw [t3]
  by_cases hb : ((64 + n : Nat) : Int) < s + 56 ∨ ((64 + n : Nat) : Int) < c + 64
  · rw [if_pos hb, if_pos (by unfold badP; omega)]
  · rw [if_neg hb, if_neg (by unfold badP; omega)]
theorem segs_one (xs : List Int) (f : Nat) : ((segsP xs f 1).length : Int) = 1 := rfl
theorem secs_one (xs : List Int) (f : Nat) : ((secsP xs f 1).length : Int) = 1 := rfl
theorem Pure.HeaderPlaces (a0 a1 a2 a3 a4 a5 a6 b0 b1 b2 b3 b4 s c z : Int) (hs : Rg s) (hc : Rg c) :
    sundiallaw03_HeaderPlaces.f 2 a0 a1 a2 a3 a4 a5 a6 b0 b1 b2 b3 b4 s c z = some true := by
  have wt : ∀ k, sundiallaw03_HeaderPlaces.j0 (k + 1) s c z true a0 a1 a2 a3 a4 a5 a6 b0 b1 b2 b3 b4 = some true := fun k => by
    rw [sundiallaw03_HeaderPlaces.j0, if_pos rfl, wakes_f]
    rfl
  unfold sundiallaw03_HeaderPlaces.f
  by_cases h1 : z < 64
  · rw [if_pos h1]
    exact wt 1
  rw [if_neg h1]
  by_cases h2 : z > 6000
  · rw [decide_eq_true h2]
    exact wt 1
  rw [decide_eq_false h2, sundiallaw03_HeaderPlaces.j0, if_neg (by decide)]
  obtain ⟨n, rfl⟩ : ∃ n : Nat, z = 64 + (n : Int) := ⟨(z - 64).toNat, by omega⟩
  have ew : wrap64 (64 + (n : Int) - 64) = (n : Int) := by unfold wrap64; omega
  have eu : IntKind.u64.wrap (64 + (n : Int)) = 64 + (n : Int) := wrapU (by omega) (by omega)
  unfold header_Head.f header_Read.f
  rw [G.Head_eq, Option.bind_some, ew, eu, Int.toNat_natCast, if_pos (by omega), if_pos (by have := head_len 0 s c 1 1; show (headP 0 s c 1 1).length + n < 140737488355328; omega), G.Read_eq]
  have ho : headP 0 s c ([(⟨a0, a1, a2, a3, a4, a5, a6⟩ : S30)] : List S30).length ([(⟨b0, b1, b2, b3, b4⟩ : S32)] : List S32).length ++ List.replicate n 0 = oneP s c n := rfl
  rw [ho, if_pos (one_BB s c n), Option.bind_some, if_pos (by omega), read_one s c n hs hc (by omega)]
  have h0 := hs.1
  have h1 := hc.1
  have k0 := hs.2
  have k1 := hc.2
  by_cases q1 : s ≤ 64 + (n : Int)
  · have e1 : IntKind.u64.wrap (64 + (n : Int) - s) = 64 + (n : Int) - s := wrapU (by omega) (by omega)
    rw [if_pos q1, e1]
    by_cases q2 : 64 + (n : Int) - s ≥ 56
    · rw [if_pos q2]
      by_cases q3 : c ≤ 64 + (n : Int)
      · have e2 : IntKind.u64.wrap (64 + (n : Int) - c) = 64 + (n : Int) - c := wrapU (by omega) (by omega)
        rw [if_pos q3, e2]
        by_cases q4 : 64 + (n : Int) - c ≥ 64
        · rw [if_neg (by omega : ¬ (((64 + n : Nat) : Int) < s + 56 ∨ ((64 + n : Nat) : Int) < c + 64)), decide_eq_true q4, if_pos (by rfl), if_pos q4, if_pos rfl, if_pos rfl, if_pos (segs_one _ _), if_pos (secs_one _ _), wakes_f]
          first | rfl | (rw [if_pos q4]; rfl)
        · rw [if_pos (by omega : ((64 + n : Nat) : Int) < s + 56 ∨ ((64 + n : Nat) : Int) < c + 64), decide_eq_false q4, if_pos (by rfl), if_neg q4, if_pos rfl, wakes_f]
          first | rfl | (rw [if_neg q4]; rfl)
      · rw [if_neg q3, if_pos (by omega : ((64 + n : Nat) : Int) < s + 56 ∨ ((64 + n : Nat) : Int) < c + 64), if_pos (by rfl), if_pos rfl, wakes_f]
        rfl
    · rw [if_neg q2, if_pos (by omega : ((64 + n : Nat) : Int) < s + 56 ∨ ((64 + n : Nat) : Int) < c + 64), if_pos (by rfl), if_pos rfl, wakes_f]
      rfl
  · rw [if_neg q1, if_pos (by omega : ((64 + n : Nat) : Int) < s + 56 ∨ ((64 + n : Nat) : Int) < c + 64), if_pos (by rfl), if_pos rfl, wakes_f]
    rfl
end Go.Proofs.YtopldeeojehklaaDoor.B
