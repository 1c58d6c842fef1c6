/- Bytes of one's own, that may be written to. HeaderBack tells true: the plain law. What the rows of the headers' laws hand in: headers, segments, sections, bytes; the package's tables where they are laid. What the rows of the headers' laws hand in, opened: bytes, segments, sections, headers. A segment, a section that is handed in. What an object is read as that is cut off, or has another byte. HeaderErrors walked. -/
import Derived.Test.YtopldeeojehklaaDoorYq11
import Derived.Test.YtopldeeojehklaaDoorYq5
import Derived.Test.YtopldeeojehklaaDoorYq4
import Derived.Test.YtopldeeojehklaaDoorYq13
import Derived.Test.YtopldeeojehklaaDoorYq12
import Derived.Test.YtopldeeojehklaaDoorYq14
import Derived.Test.YtopldeeojehklaaDoorRows
import Derived.ProofKit
import Derived.OpenShut
import Derived.LaidLaws
import Derived.Lib.LaidTab
import Derived.ChangeSame
import Derived.Deep.Slices
namespace Go.Proofs.YtopldeeojehklaaDoor.B
open Go.RowKit Go.Proofs.YtopldeeojehklaaDoorW.PrintWords Go.Proofs.YtopldeeojehklaaDoorW.PrintLast Go.Proofs.YtopldeeojehklaaDoorW.PrintMore Go.RF
set_option linter.unusedVariables false
set_option linter.unusedSimpArgs false
def OB (b g cap : Nat) (xs : List Int) (w : World) : Prop :=
  b ≤ g ∧ ∃ cur : Array Value, w.heap[g]? = some (.cells cur 5 (0, 0)) ∧ xs.length ≤ cap ∧ cap ≤ maxLen ∧ cur.size = cap ∧ ∀ j, j < xs.length → cur[j]? = some (.int .u8 (xs.getD j 0))
theorem OB.of_R {b : Nat} {ok : Nat → Prop} {v : Value} {xs : List Int} {w : World} (h : Kd.R (Kd.int .u8) 5 w b ok v xs) (hn : 0 < xs.length) : ∃ g cap, v = .slice (some ⟨g, 0, none⟩) xs.length cap ∧ OB b g cap xs w := by
  obtain ⟨-, inner, ho, hr⟩ := h
  obtain ⟨hl, ⟨-, h0⟩ | ⟨g, cap, cur, rfl, hg, hh, h1, h2, h3, h4⟩⟩ := ho
  · omega
  · have hs : (Kd.int .u8).sz = 1 := rfl
    rw [hs, Nat.mul_one] at hl h4
    rw [hs, Nat.mul_one] at h3
    refine ⟨g, cap, rfl, hg, cur, hh, h1, h2, h3, fun j hj => ?_⟩
    have hj2 := hr.2 j _ (List.getElem?_eq_getElem hj)
    rw [hs] at hj2
    have hj3 : (inner.drop (j * 1)).take 1 = [Value.int .u8 xs[j]] := hj2
    rw [Nat.mul_one] at hj3
    have e1 : inner[j]? = some (.int .u8 xs[j]) := by
      have : ((inner.drop j).take 1)[0]? = some (.int .u8 xs[j]) := by rw [hj3]; rfl
      rw [List.getElem?_take, if_pos (by decide), List.getElem?_drop] at this
      exact this
    rw [← h4, List.getElem?_take, if_pos hj] at e1
    rw [List.getD_eq_getElem?_getD, List.getElem?_eq_getElem hj, ← Array.getElem?_toList]
    exact e1
theorem OB.row8 {b g cap : Nat} {xs : List Int} {w : World} (h : OB b g cap xs w) : Row8 w ⟨g, 0, none⟩ xs := by
  obtain ⟨hg, cur, hh, h1, h2, h3, h4⟩ := h
  intro j hj
  rw [addz, bC_ hh]
  exact h4 j hj
theorem OB.C {b g cap : Nat} {xs : List Int} {w : World} (h : OB b g cap xs w) : Kd.C (Kd.int .u8) w (some ⟨g, 0, none⟩) xs.length xs :=
  row8_C h.row8 (by obtain ⟨hg, cur, hh, h1, h2, h3, h4⟩ := h; unfold maxLen at h2; omega)
theorem OB.cap_le {b g cap : Nat} {xs : List Int} {w : World} (h : OB b g cap xs w) : xs.length ≤ cap := by obtain ⟨hg, cur, hh, h1, h2, h3, h4⟩ := h; exact h1
theorem OB.take {b g cap : Nat} {xs : List Int} {w : World} (h : OB b g cap xs w) (m : Nat) : OB b g cap (xs.take m) w := by
  obtain ⟨hg, cur, hh, h1, h2, h3, h4⟩ := h
  refine ⟨hg, cur, hh, by rw [List.length_take]; omega, h2, h3, fun j hj => ?_⟩
  rw [List.length_take] at hj
  rw [h4 j (by omega), List.getD_eq_getElem?_getD, List.getD_eq_getElem?_getD, List.getElem?_take, if_pos (by omega)]
theorem OB.met {b g cap : Nat} {xs : List Int} {w w' : World} (h : OB b g cap xs w) (hb : Below w.heap.size w w') : OB b g cap xs w' := by
  obtain ⟨hg, cur, hh, h1⟩ := h
  exact ⟨hg, cur, heap_below hb hh, h1⟩
theorem OB.farRow {b g cap : Nat} {xs : List Int} {w : World} (h : OB b g cap xs w) {p : Nat} (hp : g ≠ p) (cs : Array Value) : OB b g cap xs (w.setRow p cs) := by
  obtain ⟨hg, cur, hh, h1⟩ := h
  exact ⟨hg, cur, (setRow_other w p g cs hp).trans hh, h1⟩
theorem OB.cell {b g cap : Nat} {xs : List Int} {w : World} (h : OB b g cap xs w) (j : Nat) (hj : j < xs.length) : w.cell? ⟨g, j, none⟩ = some (.int .u8 (xs.getD j 0)) := by
  obtain ⟨hg, cur, hh, h1, h2, h3, h4⟩ := h
  rw [bC_ hh]
  exact h4 j hj
theorem OB.lt {b g cap : Nat} {xs : List Int} {w : World} (h : OB b g cap xs w) : g < w.heap.size := by
  obtain ⟨hg, cur, hh, h1⟩ := h
  exact blk_lt hh
theorem OB.ne {b g cap p t : Nat} {xs : List Int} {w : World} {cs : Array Value} (h : OB b g cap xs w) (hp : w.heap[p]? = some (.cells cs t (0, 0))) (ht : 5 ≠ t) : g ≠ p := by
  obtain ⟨hg, cur, hh, h1⟩ := h
  exact blk_ne hh hp ht
end Go.Proofs.YtopldeeojehklaaDoor.B
namespace Go.Proofs.YtopldeeojehklaaDoor.B
open Go.RowKit Go.Proofs.YtopldeeojehklaaDoorW.PrintWords Go.Proofs.YtopldeeojehklaaDoorW.PrintLast Go.Proofs.YtopldeeojehklaaDoorW.PrintMore Go.RF Go.Lib
attribute [local go_sem] max2_int min2_int max_two min_two max_three min_three max_four min_four   -- for this text's walks alone
set_option linter.unusedVariables false
set_option linter.unusedSimpArgs false
noncomputable def header_TakeSegment.f (l0 : List Int) : Option (Int × Int × Int × Int × Int × Int × Int × Int) := G.TakeSegment l0
theorem header_TakeSegment.calls (A0 : Option Addr) (c0 : Nat) (l0 : List Int) (r1 : Int) (r2 : Int) (r3 : Int) (r4 : Int) (r5 : Int) (r6 : Int) (r7 : Int) (r8 : Int) (w : World) (hr0 : Kd.C (Kd.int .u8) w A0 l0.length l0) (hc0 : l0.length ≤ c0) (hT_ : Tab w) (h : header_TakeSegment.f l0 = some (r1, r2, r3, r4, r5, r6, r7, r8)) :
    Calls Tryd.prog 20 #[.slice A0 l0.length c0] w fun e w' => e = .returned (.tuple #[.agg #[.int .u32 r1, .int .u32 r2, .int .u64 r3, .int .u64 r4, .int .u64 r5, .int .u64 r6, .int .u64 r7], .int .i64 r8]) ∧ Below w.heap.size w w' :=
  G.TakeSegment_calls A0 c0 l0 r1 r2 r3 r4 r5 r6 r7 r8 w hr0 hc0 hT_ h
noncomputable def header_TakeSection.f (l0 : List Int) : Option (Int × Int × Int × Int × Int × Int) := G.TakeSection l0
theorem header_TakeSection.calls (A0 : Option Addr) (c0 : Nat) (l0 : List Int) (r1 : Int) (r2 : Int) (r3 : Int) (r4 : Int) (r5 : Int) (r6 : Int) (w : World) (hr0 : Kd.C (Kd.int .u8) w A0 l0.length l0) (hc0 : l0.length ≤ c0) (hT_ : Tab w) (h : header_TakeSection.f l0 = some (r1, r2, r3, r4, r5, r6)) :
    Calls Tryd.prog 22 #[.slice A0 l0.length c0] w fun e w' => e = .returned (.tuple #[.agg #[.int .u32 r1, .int .u64 r2, .int .u64 r3, .int .u32 r4, .int .u64 r5], .int .i64 r6]) ∧ Below w.heap.size w w' :=
  G.TakeSection_calls A0 c0 l0 r1 r2 r3 r4 r5 r6 w hr0 hc0 hT_ h
noncomputable def header_Read.f (l0 : List Int) : Option (Int × Int × Int × (List (S30)) × (List (S32)) × Int) := G.Read l0
theorem header_Read.calls (A0 : Option Addr) (c0 : Nat) (l0 : List Int) (r1 : Int) (r2 : Int) (r3 : Int) (r4 : List (S30)) (r5 : List (S32)) (r6 : Int) (w : World) (hr0 : Kd.C (Kd.int .u8) w A0 l0.length l0) (hc0 : l0.length ≤ c0) (hT_ : Tab w) (h : header_Read.f l0 = some (r1, r2, r3, r4, r5, r6)) :
    Calls Tryd.prog 10 #[.slice A0 l0.length c0] w fun e w' => ∃ v3_ v4_ : Value, e = .returned (.tuple #[.agg #[.int .u64 r1, .int .u64 r2, .int .u64 r3, v3_, v4_], .int .i64 r6]) ∧ Kd.R k30 30 w' w.heap.size (fun _ => True) v3_ r4 ∧ Kd.R k32 32 w' w.heap.size (fun _ => True) v4_ r5 ∧ Below w.heap.size w w' :=
  G.Read_calls A0 c0 l0 r1 r2 r3 r4 r5 r6 w hr0 hc0 hT_ h
noncomputable def header_Head.f (a0_0 : Int) (a0_1 : Int) (a0_2 : Int) (l0_3 : List (S30)) (l0_4 : List (S32)) : Option (List Int) := G.Head a0_0 a0_1 a0_2 l0_3 l0_4
theorem header_Head.calls (a0_0 : Int) (a0_1 : Int) (a0_2 : Int) (A0_3 : Option Addr) (c0_3 : Nat) (l0_3 : List (S30)) (A0_4 : Option Addr) (c0_4 : Nat) (l0_4 : List (S32)) (r : List Int) (w : World) (hr0_3 : Kd.C k30 w A0_3 l0_3.length l0_3) (hc0_3 : l0_3.length ≤ c0_3) (hr0_4 : Kd.C k32 w A0_4 l0_4.length l0_4) (hc0_4 : l0_4.length ≤ c0_4) (hT_ : Tab w) (h : header_Head.f a0_0 a0_1 a0_2 l0_3 l0_4 = some r) :
    Calls Tryd.prog 14 #[.agg #[.int .u64 a0_0, .int .u64 a0_1, .int .u64 a0_2, .slice A0_3 l0_3.length c0_3, .slice A0_4 l0_4.length c0_4]] w fun e w' => ∃ v0_ : Value, e = .returned (v0_) ∧ Kd.R (Kd.int .u8) 5 w' w.heap.size (fun _ => True) v0_ r ∧ Below w.heap.size w w' :=
  G.Head_calls a0_0 a0_1 a0_2 A0_3 c0_3 l0_3 A0_4 c0_4 l0_4 r w hr0_3 hc0_3 hr0_4 hc0_4 hT_ h
noncomputable def header_Segment.f (a0_0 : Int) (a0_1 : Int) (a0_2 : Int) (a0_3 : Int) (a0_4 : Int) (a0_5 : Int) (a0_6 : Int) : Option (List Int) := G.Segment a0_0 a0_1 a0_2 a0_3 a0_4 a0_5 a0_6
theorem header_Segment.calls (a0_0 : Int) (a0_1 : Int) (a0_2 : Int) (a0_3 : Int) (a0_4 : Int) (a0_5 : Int) (a0_6 : Int) (r : List Int) (w : World) (hT_ : Tab w) (h : header_Segment.f a0_0 a0_1 a0_2 a0_3 a0_4 a0_5 a0_6 = some r) :
    Calls Tryd.prog 16 #[.agg #[.int .u32 a0_0, .int .u32 a0_1, .int .u64 a0_2, .int .u64 a0_3, .int .u64 a0_4, .int .u64 a0_5, .int .u64 a0_6]] w fun e w' => ∃ v0_ : Value, e = .returned (v0_) ∧ Kd.R (Kd.int .u8) 5 w' w.heap.size (fun _ => True) v0_ r ∧ Below w.heap.size w w' :=
  G.Segment_calls a0_0 a0_1 a0_2 a0_3 a0_4 a0_5 a0_6 r w hT_ h
noncomputable def header_Section.f (a0_0 : Int) (a0_1 : Int) (a0_2 : Int) (a0_3 : Int) (a0_4 : Int) : Option (List Int) := G.Section a0_0 a0_1 a0_2 a0_3 a0_4
theorem header_Section.calls (a0_0 : Int) (a0_1 : Int) (a0_2 : Int) (a0_3 : Int) (a0_4 : Int) (r : List Int) (w : World) (hT_ : Tab w) (h : header_Section.f a0_0 a0_1 a0_2 a0_3 a0_4 = some r) :
    Calls Tryd.prog 18 #[.agg #[.int .u32 a0_0, .int .u64 a0_1, .int .u64 a0_2, .int .u32 a0_3, .int .u64 a0_4]] w fun e w' => ∃ v0_ : Value, e = .returned (v0_) ∧ Kd.R (Kd.int .u8) 5 w' w.heap.size (fun _ => True) v0_ r ∧ Below w.heap.size w w' :=
  G.Section_calls a0_0 a0_1 a0_2 a0_3 a0_4 r w hT_ h
noncomputable def sundiallaw03_wakes.f  : Option (Bool) := (header_Read.f ([] : List Int)).bind fun bt318 => ((header_Head.f 7 0 0 ([] : List (S30)) ([] : List (S32))).bind fun t329 => ((header_Read.f t329).bind fun bt332 => (if 64 ≤ 281474976710656 then ((header_Read.f (List.replicate 64 0)).bind fun bt346 => (if bt318.2.2.2.2.2 = 30 then (if bt332.2.2.2.2.2 = 0 then (if bt332.1 = 7 then (if (bt332.2.2.2.1.length : Int) = 0 then (if bt346.2.2.2.2.2 = 31 then ((header_Segment.f 0 0 0 0 0 0 0).bind fun t357 => (if (t357.length : Int) = 56 then ((header_Section.f 0 0 0 0 0).bind fun t360 => (some ((t360.length : Int) == 64))) else (some false))) else (some false)) else (some false)) else (some false)) else (some false)) else (some false))) else (none))))
theorem C_none (w : World) : Kd.C (Kd.int .u8) w none 0 ([] : List Int) := ⟨rfl, by decide, fun h => absurd h (by decide)⟩
theorem C30_none (w : World) : Kd.C k30 w none 0 ([] : List S30) := ⟨rfl, by decide, fun h => absurd h (by decide)⟩
theorem C32_none (w : World) : Kd.C k32 w none 0 ([] : List S32) := ⟨rfl, by decide, fun h => absurd h (by decide)⟩
theorem wk_r1 : header_Read.f [] = some (0, 0, 0, [], [], 30) := by
  unfold header_Read.f
  rw [G.Read_eq, if_pos (by decide)]
  exact congrArg some (by kernel_rfl)
theorem wk_h : header_Head.f 7 0 0 [] [] = some (headP 7 0 0 0 0) := by
  unfold header_Head.f
  rw [G.Head_eq]
  rfl
theorem wk_r2 : header_Read.f (headP 7 0 0 0 0) = some (7, 0, 0, [], [], 0) := by
  unfold header_Read.f
  rw [G.Read_eq, if_pos (by decide)]
  exact congrArg some wakes_read
theorem wk_r3 : header_Read.f (List.replicate 64 0) = some (0, 0, 0, [], [], 31) := by
  unfold header_Read.f
  rw [G.Read_eq, if_pos (by decide)]
  exact congrArg some (by kernel_rfl)
theorem wk_s : header_Segment.f 0 0 0 0 0 0 0 = some (segP 0 0 0 0 0 0 0) := by
  unfold header_Segment.f
  rw [G.Segment_eq]
theorem wk_c : header_Section.f 0 0 0 0 0 = some (secP 0 0 0 0 0) := by
  unfold header_Section.f
  rw [G.Section_eq]
def WkS (w0 : World) (g3 : Nat) (A3 : Option Addr) (c3 : Nat) (A4 : Option Addr) (c4 : Nat) (w : World) : Prop :=
  w.heap[g3]? = some (.cells #[.int .u64 7, .int .u64 0, .int .u64 0, .slice A3 0 c3, .slice A4 0 c4] 27 (0, 0)) ∧ Tab w ∧ Below w0.heap.size w0 w
theorem WkS.met {w0 w w' : World} {g3 c3 c4 : Nat} {A3 A4 : Option Addr} (h : WkS w0 g3 A3 c3 A4 c4 w) (hb : Below w.heap.size w w') : WkS w0 g3 A3 c3 A4 c4 w' :=
  ⟨heap_below hb h.1, h.2.1.below hb, below_step h.2.2 hb⟩
theorem wk_seg (w : World) (hT : Tab w) : Calls Tryd.prog 16 #[.agg #[.int .u32 0, .int .u32 0, .int .u64 0, .int .u64 0, .int .u64 0, .int .u64 0, .int .u64 0]] w fun e w' => ∃ A c, e = .returned (.slice A 56 c) ∧ Below w.heap.size w w' := by
  refine (header_Segment.calls 0 0 0 0 0 0 0 _ w hT wk_s).mono ?_
  rintro e w' ⟨v, rfl, hr, hb⟩
  obtain ⟨A, c, rfl⟩ := Kd.R_slice hr
  exact ⟨A, c, by rw [show (segP 0 0 0 0 0 0 0).length = 56 by rw [segP_list]; rfl], hb⟩
theorem wk_sec (w : World) (hT : Tab w) : Calls Tryd.prog 18 #[.agg #[.int .u32 0, .int .u64 0, .int .u64 0, .int .u32 0, .int .u64 0]] w fun e w' => ∃ A c, e = .returned (.slice A 64 c) ∧ Below w.heap.size w w' := by
  refine (header_Section.calls 0 0 0 0 0 _ w hT wk_c).mono ?_
  rintro e w' ⟨v, rfl, hr, hb⟩
  obtain ⟨A, c, rfl⟩ := Kd.R_slice hr
  exact ⟨A, c, by rw [show (secP 0 0 0 0 0).length = 64 by rw [secP_list]; rfl], hb⟩
set_option maxHeartbeats 8000000 in
set_option maxRecDepth 100000 in
theorem wakes_true (w : World) (hT : Tab w) : Calls Tryd.prog 9 #[] w fun e w' => e = .returned (.bool true) ∧ Below w.heap.size w w' := by
  have hu27 := Tryd.underlying27
  have hu30 := Tryd.underlying30
  have hu32 := Tryd.underlying32
  have HT := Aside0.mk hT
  clear hT
  go_enter Tryd.func9, Tryd.ntmps9
  go_upto_region 2 with (first | (go_at_call 10; refine (header_Read.calls none 0 [] 0 0 0 [] [] 30 _ (C_none _) (Nat.le_refl 0) HT.out wk_r1).mono ?_; rintro e w' ⟨v3, v4, rfl, hr3, hr4, hb⟩; obtain ⟨A3, c3, rfl⟩ := Kd.R_slice hr3; obtain ⟨A4, c4, rfl⟩ := Kd.R_slice hr4; have HB := Aside0.mk hb; clear hb hr3 hr4) | ((with_reducible refine gate_dst (N := 1) rfl ?_); refine box_event ?hg (N := 1) ?hd (cs := #[.int .u64 0, .int .u64 0, .int .u64 0, .slice none 0 0, .slice none 0 0]) (t := 27) ?hr ?_; (case hd => rfl); (case hg => rfl); (case hr => first | (go_simp; done) | (go_simp; rfl)); intro g1 hg w2 hbox hb; have BK_g1 := Aside0.mk hbox; have HB2 := Aside0.mk (below_step HB.out hb); have HG1 := Aside0.mk (show w.heap.size ≤ g1 by rw [hg]; exact HB.out.size); clear HB; have HB := HB2; clear HB2; clear hg hbox hb) | (with_reducible refine wpList_store_row rfl 27 (.tmp 1) (.tmp 9) rfl g1 #[.int .u64 0, .int .u64 0, .int .u64 0, .slice A3 0 c3, .slice A4 0 c4] rfl rfl 27 #[.int .u64 0, .int .u64 0, .int .u64 0, .slice none 0 0, .slice none 0 0] BK_g1.out (by kernel_rfl) rfl (by simp [Value.oneCell']) ?_))
  obtain ⟨w3, hw3⟩ : ∃ w3, w2.setRow g1 #[.int .u64 0, .int .u64 0, .int .u64 0, .slice A3 0 c3, .slice A4 0 c4] = w3 := ⟨_, rfl⟩
  have HB3 := Aside0.mk (show Below w.heap.size w w3 by rw [← hw3]; exact below_setRow HB.out HG1.out _)
  rw [hw3]
  clear hw3 HB BK_g1 HG1
  go_upto_region 3 with (first | (go_at_call 14; refine (header_Head.calls 7 0 0 none 0 [] none 0 [] _ _ (C30_none _) (Nat.le_refl 0) (C32_none _) (Nat.le_refl 0) (HT.out.below HB3.out) wk_h).mono ?_; rintro e w4 ⟨v, rfl, hr, hb⟩; have HB4 := Aside0.mk (below_step HB3.out hb); obtain ⟨g, cap, rfl, hO⟩ := OB.of_R hr (by rw [head_len]; decide); have HO := Aside0.mk hO; clear hb hr hO) | (go_at_call 10; refine (header_Read.calls (some ⟨g, 0, none⟩) cap (headP 7 0 0 0 0) 7 0 0 [] [] 0 _ HO.out.C HO.out.cap_le (HT.out.below HB4.out) wk_r2).mono ?_; rintro e w5 ⟨v3, v4, rfl, hr3, hr4, hb⟩; obtain ⟨A3, c3, rfl⟩ := Kd.R_slice hr3; obtain ⟨A4, c4, rfl⟩ := Kd.R_slice hr4; have HB5 := Aside0.mk (below_step HB4.out hb); clear hb hr3 hr4) | ((with_reducible refine gate_dst (N := 3) rfl ?_); refine box_event ?hg (N := 3) ?hd (cs := #[.int .u64 0, .int .u64 0, .int .u64 0, .slice none 0 0, .slice none 0 0]) (t := 27) ?hr ?_; (case hd => rfl); (case hg => rfl); (case hr => first | (go_simp; done) | (go_simp; rfl)); intro g3 hg w6 hbox hb; have BK_g3 := Aside0.mk hbox; have HB6 := Aside0.mk (below_step HB5.out hb); have HG3 := Aside0.mk (show w.heap.size ≤ g3 by rw [hg]; exact HB5.out.size); clear hg hbox hb) | (with_reducible refine wpList_store_row rfl 27 (.tmp 3) (.tmp 15) rfl g3 #[.int .u64 7, .int .u64 0, .int .u64 0, .slice A3 0 c3, .slice A4 0 c4] rfl rfl 27 #[.int .u64 0, .int .u64 0, .int .u64 0, .slice none 0 0, .slice none 0 0] BK_g3.out (by kernel_rfl) rfl (by simp [Value.oneCell']) ?_))
  obtain ⟨w7, hw7⟩ : ∃ w7, w6.setRow g3 #[.int .u64 7, .int .u64 0, .int .u64 0, .slice A3 0 c3, .slice A4 0 c4] = w7 := ⟨_, rfl⟩
  have HS := Aside0.mk (show WkS w g3 A3 c3 A4 c4 w7 by rw [← hw7]; exact ⟨setRow_heap _ _ _ _ _ _ BK_g3.out, Tab.below HT.out (below_setRow HB6.out HG3.out _), below_setRow HB6.out HG3.out _⟩)
  rw [hw7]
  clear hw7 HB3 HB4 HB5 HB6 HO BK_g3 HG3
  go_upto_region 4 with (first | ((with_reducible refine gate_dst (N := 18) rfl ?_); refine Kd.R_make (Kd.int .u8) _ 5 rfl (N := 18) rfl 22 _ _ rfl 64 rfl rfl Tryd.underlying22 (.int .u8 0) 1 info5 rfl (by decide) (by omega) 0 (ok := fun _ => True) (okp := fun _ => True) rfl (fun _ hk => hk) trivial (by omega) (by omega) (Below.refl _ _) (Nat.le_refl _) ?_; intro v8 w8 hr hb hg_ hnew_; obtain ⟨g8, cap8, rfl, hO⟩ := OB.of_R hr (by decide); have HO8 := Aside0.mk (show OB w7.heap.size g8 cap8 (List.replicate 64 0) w8 from hO); have HS8 := Aside0.mk (HS.out.met hb); clear hr hb hg_ hnew_ hO) | (go_at_call 10; refine (header_Read.calls (some ⟨g8, 0, none⟩) cap8 (List.replicate 64 0) 0 0 0 [] [] 31 _ HO8.out.C HO8.out.cap_le HS8.out.2.1 wk_r3).mono ?_; rintro e w9 ⟨v5, v6, rfl, hr3, hr4, hb⟩; obtain ⟨A5, c5, rfl⟩ := Kd.R_slice hr3; obtain ⟨A6, c6, rfl⟩ := Kd.R_slice hr4; have HS9 := Aside0.mk (HS8.out.met hb); clear hb hr3 hr4) | ((with_reducible refine gate_dst (N := 5) rfl ?_); refine box_event ?hg (N := 5) ?hd (cs := #[.int .u64 0, .int .u64 0, .int .u64 0, .slice none 0 0, .slice none 0 0]) (t := 27) ?hr ?_; (case hd => rfl); (case hg => rfl); (case hr => first | (go_simp; done) | (go_simp; rfl)); intro g5 hg w10 hbox hb; have BK_g5 := Aside0.mk hbox; have HS10 := Aside0.mk (HS9.out.met hb); have HG5 := Aside0.mk hg; have HB10 := Aside0.mk hb; clear hg hbox hb) | (with_reducible refine wpList_store_row rfl 27 (.tmp 5) (.tmp 20) rfl g5 #[.int .u64 0, .int .u64 0, .int .u64 0, .slice A5 0 c5, .slice A6 0 c6] rfl rfl 27 #[.int .u64 0, .int .u64 0, .int .u64 0, .slice none 0 0, .slice none 0 0] BK_g5.out (by kernel_rfl) rfl (by simp [Value.oneCell']) ?_))
  obtain ⟨w11, hw11⟩ : ∃ w11, w10.setRow g5 #[.int .u64 0, .int .u64 0, .int .u64 0, .slice A5 0 c5, .slice A6 0 c6] = w11 := ⟨_, rfl⟩
  have HS11 := Aside0.mk (show WkS w g3 A3 c3 A4 c4 w11 by
    rw [← hw11]
    refine ⟨(setRow_other _ _ _ _ (Nat.ne_of_lt (Nat.lt_of_lt_of_le (blk_lt HS9.out.1) (Nat.le_of_eq HG5.out.symm)))).trans HS10.out.1, Tab.below HS9.out.2.1 (below_setRow HB10.out (Nat.le_of_eq HG5.out.symm) _), below_setRow HS10.out.2.2 (by rw [HG5.out]; exact HS9.out.2.2.size) _⟩)
  rw [hw11]
  clear hw11 HS HS8 HS9 HS10 BK_g5 HG5 HB10 HO8
  have hcz0 : w11.cell? ⟨g3, 0, none⟩ = some (.int .u64 7) := (bC_ HS11.out.1 0).trans rfl
  have hcz3 : w11.cell? ⟨g3, 3, none⟩ = some (.slice A3 0 c3) := (bC_ HS11.out.1 3).trans rfl
  go_wp2_with (first | (go_at_call 16; refine (wk_seg _ HS11.out.2.1).mono ?_; rintro e w12 ⟨A12, c12, rfl, hb⟩; have HS12 := Aside0.mk (HS11.out.met hb); clear hb) | (go_at_call 18; refine (wk_sec _ HS12.out.2.1).mono ?_; rintro e w13 ⟨A13, c13, rfl, hb⟩; have HS13 := Aside0.mk (HS12.out.met hb); clear hb))
  go_ret
  exact ⟨rfl, HS13.out.2.2⟩
theorem sundiallaw03_wakes.calls (r : Bool) (w : World) (hT_ : Tab w) (h : sundiallaw03_wakes.f = some r) :
    Calls Tryd.prog 9 #[] w fun e w' => e = .returned (.bool r) ∧ Below w.heap.size w w' := by
  have e : sundiallaw03_wakes.f = some true := by
    unfold sundiallaw03_wakes.f
    rw [wk_r1, Option.bind_some, wk_h, Option.bind_some, wk_r2, Option.bind_some, if_pos (by decide), wk_r3, Option.bind_some, wk_s, Option.bind_some, wk_c, Option.bind_some, show (segP 0 0 0 0 0 0 0).length = 56 by rw [segP_list]; rfl, show (secP 0 0 0 0 0).length = 64 by rw [secP_list]; rfl]
    rfl
  rw [e] at h
  cases h
  exact wakes_true w hT_
end Go.Proofs.YtopldeeojehklaaDoor.B
namespace Go.Proofs.YtopldeeojehklaaDoor.B
open Go.RowKit Go.Proofs.YtopldeeojehklaaDoorW.PrintWords Go.Proofs.YtopldeeojehklaaDoorW.PrintLast Go.Proofs.YtopldeeojehklaaDoorW.PrintMore
attribute [local go_sem] max2_int min2_int max_two min_two max_three min_three max_four min_four   -- for this text's walks alone
set_option linter.unusedVariables false
set_option linter.unusedSimpArgs false
attribute [local go_sem high] eqA30 eqA32
end Go.Proofs.YtopldeeojehklaaDoor.B
namespace Go.Proofs.YtopldeeojehklaaDoor.B
open Go.RowKit Go.Proofs.YtopldeeojehklaaDoorW.PrintWords Go.Proofs.YtopldeeojehklaaDoorW.PrintMore Go.RF
set_option linter.unusedVariables false
set_option linter.unusedSimpArgs false
theorem wakes_f : sundiallaw03_wakes.f = some true := by
  unfold sundiallaw03_wakes.f header_Read.f header_Head.f header_Segment.f header_Section.f
  rw [G.Read_eq, if_pos (by decide), Option.bind_some, G.Head_eq, Option.bind_some, G.Read_eq, if_pos (by show BB (headP 7 0 0 0 0); decide), Option.bind_some, if_pos (by decide), G.Read_eq, if_pos (by decide), Option.bind_some, G.Segment_eq, Option.bind_some, G.Section_eq, Option.bind_some]
  have e1 : readP [] = (0, 0, 0, [], [], 30) := by kernel_rfl
  have e2 : readP (headP 7 0 0 ([] : List S30).length ([] : List S32).length) = (7, 0, 0, [], [], 0) := wakes_read
  have e3 : readP (List.replicate 64 0) = (0, 0, 0, [], [], 31) := by kernel_rfl
  have e4 : (segP 0 0 0 0 0 0 0).length = 56 := by rw [segP_list]; rfl
  have e5 : (secP 0 0 0 0 0).length = 64 := by rw [secP_list]; rfl
  rw [e1, e2, e3, e4, e5]
  rfl
theorem rsame_l1 (a0 a1 a2 b0 b1 b2 : Int) (S T : List S30) (C : List S32) (hC : C.length ≤ 1000) : ∀ (d i k : Nat), i + d = C.length → d + 1 ≤ k → sundialref03_Same.l1 k (i : Int) a0 a1 a2 S C b0 b1 b2 T C = some true
  | 0, i, k, hi, hk => by
    obtain ⟨k, rfl⟩ : ∃ m, k = m + 1 := ⟨k - 1, by omega⟩
    rw [sundialref03_Same.l1, if_neg (by omega)]
  | d + 1, i, k, hi, hk => by
    obtain ⟨k, rfl⟩ : ∃ m, k = m + 1 := ⟨k - 1, by omega⟩
    have e3 : wrap64 ((i : Int) + 1) = ((i + 1 : Nat) : Int) := by unfold wrap64; omega
    rw [sundialref03_Same.l1, if_pos (by omega), if_pos (by omega), if_pos (by omega), if_neg (by simp only [beq_self_eq_true]; decide), e3]
    exact rsame_l1 a0 a1 a2 b0 b1 b2 S T C hC d (i + 1) k (by omega) (by omega)
theorem rsame_l0 (a0 a1 a2 b0 b1 b2 : Int) (S : List S30) (C : List S32) (hS : S.length ≤ 1000) (hC : C.length ≤ 1000) : ∀ (d i k : Nat), i + d = S.length → d + C.length + 2 ≤ k → sundialref03_Same.l0 k (i : Int) a0 a1 a2 S C b0 b1 b2 S C = some true
  | 0, i, k, hi, hk => by
    obtain ⟨k, rfl⟩ : ∃ m, k = m + 1 := ⟨k - 1, by omega⟩
    rw [sundialref03_Same.l0, if_neg (by omega)]
    exact rsame_l1 a0 a1 a2 b0 b1 b2 S S C hC C.length 0 k (by omega) (by omega)
  | d + 1, i, k, hi, hk => by
    obtain ⟨k, rfl⟩ : ∃ m, k = m + 1 := ⟨k - 1, by omega⟩
    have e3 : wrap64 ((i : Int) + 1) = ((i + 1 : Nat) : Int) := by unfold wrap64; omega
    rw [sundialref03_Same.l0, if_pos (by omega), if_pos (by omega), if_pos (by omega), if_neg (by simp only [beq_self_eq_true]; decide), e3]
    exact rsame_l0 a0 a1 a2 b0 b1 b2 S C hS hC d (i + 1) k (by omega) (by omega)
theorem rsame_refl (a0 a1 a2 : Int) (S : List S30) (C : List S32) (hS : S.length ≤ 1000) (hC : C.length ≤ 1000) (k : Nat) (hk : S.length + C.length + 3 ≤ k) : sundialref03_Same.f k a0 a1 a2 S C a0 a1 a2 S C = some true := by
  obtain ⟨k, rfl⟩ : ∃ m, k = m + 1 := ⟨k - 1, by omega⟩
  unfold sundialref03_Same.f
  rw [if_pos rfl, if_pos rfl, if_pos rfl, if_pos rfl, sundialref03_Same.j0, if_neg (by simp)]
  exact rsame_l0 a0 a1 a2 a0 a1 a2 S C hS hC S.length 0 k (by omega) (by omega)
theorem BB_append {l r : List Int} (h1 : BB l) (h2 : BB r) : BB (l ++ r) := by
  intro x hx
  rcases List.mem_append.1 hx with h | h
  · exact h1 x h
  · exact h2 x h
theorem b2_BB (x : Int) : BB (b2 x) := bytesN_BB x 2
theorem b4_BB (x : Int) : BB (b4 x) := bytesN_BB x 4
theorem b8_BB (x : Int) : BB (b8 x) := bytesN_BB x 8
theorem segB_BB (x : S30) : BB (segB x) := by
  unfold segB
  rw [segP_list]
  exact BB_append (b4_BB _) (BB_append (b4_BB _) (BB_append (b8_BB _) (BB_append (b8_BB _) (BB_append (by decide) (BB_append (b8_BB _) (BB_append (b8_BB _) (b8_BB _)))))))
theorem secB_BB (x : S32) : BB (secB x) := by
  unfold secB
  rw [secP_list]
  exact BB_append (by decide) (BB_append (b4_BB _) (BB_append (by decide) (BB_append (b8_BB _) (BB_append (b8_BB _) (BB_append (b4_BB _) (BB_append (by decide) (b8_BB _)))))))
theorem headP_BB (a0 a1 a2 : Int) (n m : Nat) : BB (headP a0 a1 a2 n m) := by
  rw [headP_list]
  exact BB_append (by decide) (BB_append (b8_BB _) (BB_append (b8_BB _) (BB_append (b8_BB _) (BB_append (by decide) (BB_append (b2_BB _) (BB_append (by decide) (BB_append (b2_BB _) (by decide))))))))
theorem flat_BB {α : Type} (f : α → List Int) (h : ∀ x, BB (f x)) : ∀ l : List α, BB ((l.map f).flatten)
  | [] => by intro x hx; simp at hx
  | a :: l => by
    rw [List.map_cons, List.flatten_cons]
    exact BB_append (h a) (flat_BB f h l)
theorem obj_BB (a0 a1 a2 : Int) (S : List S30) (C : List S32) {r : List Int} (hr : BB r) : BB (objP a0 a1 a2 S C r) :=
  BB_append (headP_BB _ _ _ _ _) (BB_append (flat_BB _ segB_BB S) (BB_append (flat_BB _ secB_BB C) hr))
end Go.Proofs.YtopldeeojehklaaDoor.B
namespace Go.Proofs.YtopldeeojehklaaDoor.R
open Go.RowKit Go.Deep Go.ChangeShapes Go.WideShapes Go.ChangeAt Go.Lib Go.Proofs.YtopldeeojehklaaDoorW.PrintWords Go.Proofs.YtopldeeojehklaaDoorW.PrintLast Go.Proofs.YtopldeeojehklaaDoorW.PrintMore Go.Proofs.YtopldeeojehklaaDoor.B Go.RF
set_option linter.unusedVariables false
theorem laid_read {P : Program} {w : World} : ∀ {l : List (String × DataW Unit)} {ps : List MemPlace}, DataW.LaidVars P w l ps → ∀ n d, (n, d) ∈ l →
    ∃ g t cs fuel p, P.globalNamed n = some g ∧ (P.globals[g]?).map (·.type) = some t ∧ w.var? P n = some cs ∧ DataW.trod (fun _ => ()) P w 0 (fun _ => true) false fuel t cs.toList = some (d, p)
  | [], _, _, _, _, hm => by cases hm
  | (n', d') :: r, ps, h, n, d, hm => by
    obtain ⟨g, t, cs, fuel, p, q, h1, h2, h3, h4, h5, _⟩ := h
    rcases List.mem_cons.1 hm with e | e
    · cases e
      exact ⟨g, t, cs, fuel, p, h1, h2, h3, h4⟩
    · exact laid_read h5 n d e
theorem laid_cells {P : Program} {w : World} {l : List (String × DataW Unit)} {name : String} {D : DataW Unit} {g t : Nat} (hL : laidMet P l w) (hm : (name, D) ∈ l) (hg : P.globalNamed name = some g) (htt : (P.globals[g]?).map (·.type) = some t) :
    ∃ c tt fr fuel p, w.heap[g]? = some (.cells c tt fr) ∧ DataW.trod (fun _ => ()) P w 0 (fun _ => true) false fuel t c.toList = some (D, p) := by
  obtain ⟨ps, hv, -⟩ := hL
  obtain ⟨g', t', cs, fuel, p, h1, h2, h3, h4⟩ := laid_read hv _ _ hm
  obtain rfl : g' = g := Option.some.inj (h1.symm.trans hg)
  obtain rfl : t' = t := Option.some.inj (h2.symm.trans htt)
  unfold World.var? at h3
  rw [hg] at h3
  simp only [Option.bind_some] at h3
  cases hh : w.heap[g']? with
  | none => rw [hh] at h3; simp at h3
  | some o =>
    rw [hh] at h3
    cases o with
    | cells c tt fr =>
      simp only [Option.some.injEq] at h3
      subst h3
      exact ⟨c, tt, fr, fuel, p, rfl, h4⟩
    | _ => simp at h3
section
variable {H : Type} {enc : TypeId × Value → H} {w : World} {base : Nat} {sp : Nat → Bool} {held : Bool} {fuel : Nat} {cs : List Value}
theorem flat_int {P : Program} {t : TypeId} {k : IntKind} {y : DataW H × List MemPlace} {a : Int} (ht : P.underlying t = some (.int k)) (h : DataW.trod enc P w base sp held fuel t cs = some y) (he : y.1 = .lit (.int k a)) : cs = [.int k a] := by
  obtain ⟨n, rfl, rfl, _⟩ := DataW.trod_int ht h
  injection he with he
  injection he with _ he
  rw [he]
theorem flat57 {a b : Int} {y : DataW H × List MemPlace} (h : DataW.trod enc Tryd.prog w base sp held fuel 57 cs = some y) (he : y.1 = .agg [.lit (.int .i64 a), .lit (.int .i64 b)]) : cs = [.int .i64 a, .int .i64 b] := by
  obtain ⟨xs, n, _, rfl, hcl, hxl, hF⟩ := DataW.trod_struct Tryd.underlying57 h
  have hcl' : cs.length = 2 := hcl
  have hxl' : xs.length = 2 := hxl
  match cs, hcl', xs, hxl' with
  | [v0, v1], _, [y0, y1], _ =>
    have g0 : DataW.trod enc Tryd.prog w base sp held n 3 [v0] = some y0 := hF 0 _ rfl
    have g1 : DataW.trod enc Tryd.prog w base sp held n 3 [v1] = some y1 := hF 1 _ rfl
    injection he with he
    injection he with e0 he
    injection he with e1 _
    have h0 := flat_int Tryd.underlying3 g0 e0
    have h1 := flat_int Tryd.underlying3 g1 e1
    injection h0 with h0 _
    injection h1 with h1 _
    rw [h0, h1]
theorem flat68 {a b z : Int} {y : DataW H × List MemPlace} (h : DataW.trod enc Tryd.prog w base sp held fuel 68 cs = some y) (he : y.1 = .agg [.agg [.lit (.int .i64 a), .lit (.int .i64 b)], .lit (.int .u64 z)]) : cs = [.int .i64 a, .int .i64 b, .int .u64 z] := by
  obtain ⟨xs, n, _, rfl, hcl, hxl, hF⟩ := DataW.trod_struct Tryd.underlying68 h
  have hcl' : cs.length = 3 := hcl
  have hxl' : xs.length = 2 := hxl
  match cs, hcl', xs, hxl' with
  | [v0, v1, v2], _, [y0, y1], _ =>
    have g0 : DataW.trod enc Tryd.prog w base sp held n 57 [v0, v1] = some y0 := hF 0 _ rfl
    have g1 : DataW.trod enc Tryd.prog w base sp held n 23 [v2] = some y1 := hF 1 _ rfl
    injection he with he
    injection he with e0 he
    injection he with e1 _
    have h0 := flat57 g0 e0
    have h1 := flat_int Tryd.underlying23 g1 e1
    injection h0 with h0 h0'
    injection h0' with h0' _
    injection h1 with h1 _
    rw [h0, h0', h1]
theorem arr_at {P : Program} {t e : TypeId} {n sz : Nat} {ds : List (DataW H)} {p : List MemPlace} (ht : P.underlying t = some (.array n e)) (hce : P.cellsOf e = sz) (hct : P.cellsOf t = n * sz) (h : DataW.trod enc P w base sp held fuel t cs = some (.agg ds, p)) :
    cs.length = n * sz ∧ ∀ i d, ds[i]? = some d → ∃ f y, DataW.trod enc P w base sp held f e ((cs.drop (i * sz)).take sz) = some y ∧ y.1 = d := by
  cases fuel with
  | zero => simp [DataW.trod] at h
  | succ fuel =>
    simp only [DataW.trod, ht, hce, hct] at h
    split at h
    · rename_i hl
      obtain ⟨xs, hm, hx⟩ := Option.map_eq_some_iff.1 h
      have hxs : xs.map (·.1) = ds := by
        have := congrArg Prod.fst hx
        injection this
      have hxl : xs.length = n := by simpa using mapM_length hm
      refine ⟨hl, fun i d hd => ?_⟩
      have hi : i < n := by
        have := (List.getElem?_eq_some_iff.1 hd).1
        rw [← hxs] at this
        simpa [hxl] using this
      obtain ⟨b, hb, hf⟩ := mapM_at hm i i (by simp [hi])
      refine ⟨_, b, hf, ?_⟩
      rw [← hxs, List.getElem?_map, hb] at hd
      exact Option.some.inj hd
    · cases h
end
theorem chunk {L X : List Value} {k m r : Nat} (h : (L.drop k).take m = X) (hr : r < m) : L[k + r]? = X[r]? := by
  rw [← h, List.getElem?_take, if_pos hr, List.getElem?_drop]
theorem cell_arr {w : World} {g : Nat} {c : Array Value} {tt : TypeId} {fr : Nat × Nat} (h : w.heap[g]? = some (.cells c tt fr)) (k : Nat) (v : Value) (hv : c.toList[k]? = some v) : w.cell? ⟨g, k, none⟩ = some v := by
  have : c[k]? = some v := by simpa using hv
  unfold World.cell?
  rw [h]
  simp [this]
theorem tab57 {w : World} {g t n : Nat} {l : List (String × DataW Unit)} {name : String} {ds : List (DataW Unit)} {F : List (Nat × Nat)} (hL : laidMet Tryd.prog l w) (hm : (name, .agg ds) ∈ l) (hg : Tryd.prog.globalNamed name = some g) (htt : (Tryd.prog.globals[g]?).map (·.type) = some t)
    (ht : Tryd.prog.underlying t = some (.array n 57)) (hct : Tryd.prog.cellsOf t = n * 2) (hd : ds = F.map fun f => .agg [.lit (.int .i64 (f.1 : Int)), .lit (.int .i64 (f.2 : Int))]) : FTab w g F ∧ g < w.heap.size := by
  obtain ⟨c, tt, fr, fuel, p, hh, h⟩ := laid_cells hL hm hg htt
  obtain ⟨_, ha⟩ := arr_at ht (by kernel_rfl) hct h
  refine ⟨fun i f hf => ?_, (Array.getElem?_eq_some_iff.1 hh).1⟩
  obtain ⟨f', y, h1, h2⟩ := ha i (.agg [.lit (.int .i64 (f.1 : Int)), .lit (.int .i64 (f.2 : Int))]) (by rw [hd, List.getElem?_map, hf]; rfl)
  have e := flat57 h1 h2
  exact ⟨cell_arr hh _ _ (chunk (r := 0) e (by decide)), cell_arr hh _ _ (chunk (r := 1) e (by decide))⟩
theorem drop3 {L X : List Value} {k : Nat} (h : (L.drop k).take 3 = X) : L.drop k = X ++ L.drop (k + 3) := by
  rw [← h, ← List.drop_drop]
  exact (List.take_append_drop 3 _).symm
abbrev LL : List (String × DataW Unit) := [("sundial/header.must", Rows.laid_sundial_header_must), ("sundial/header.places", Rows.laid_sundial_header_places), ("sundial/header.segment", Rows.laid_sundial_header_segment), ("sundial/header.section", Rows.laid_sundial_header_section)]
theorem must_of {w : World} (hL : laidMet Tryd.prog LL w) : MustB w := by
  obtain ⟨c, tt, fr, fuel, p, hh, h⟩ := laid_cells (t := 69) (g := 1) hL (.head _) (by kernel_rfl) (by kernel_rfl)
  obtain ⟨hl, ha⟩ := arr_at (n := 8) (e := 68) (sz := 3) (by kernel_rfl) (by kernel_rfl) (by kernel_rfl) h
  have k : ∀ (i : Nat) (a b z : Int), _ → (c.toList.drop (i * 3)).take 3 = [.int .i64 a, .int .i64 b, .int .u64 z] := fun i a b z hd => by
    obtain ⟨f', y, h1, h2⟩ := ha i (.agg [.agg [.lit (.int .i64 a), .lit (.int .i64 b)], .lit (.int .u64 z)]) hd
    exact flat68 h1 h2
  have d0 := drop3 (k 0 4 1 2 rfl)
  have d1 := drop3 (k 1 5 1 1 rfl)
  have d2 := drop3 (k 2 6 1 1 rfl)
  have d3 := drop3 (k 3 16 2 2 rfl)
  have d4 := drop3 (k 4 18 2 62 rfl)
  have d5 := drop3 (k 5 20 4 1 rfl)
  have d6 := drop3 (k 6 48 4 0 rfl)
  have d7 := drop3 (k 7 52 2 64 rfl)
  have d8 : c.toList.drop (7 * 3 + 3) = [] := List.drop_of_length_le (by omega)
  have e : c.toList = mustV.toList := by
    have := d0
    rw [show (0 * 3 + 3 : Nat) = 1 * 3 from rfl, d1, show (1 * 3 + 3 : Nat) = 2 * 3 from rfl, d2, show (2 * 3 + 3 : Nat) = 3 * 3 from rfl, d3, show (3 * 3 + 3 : Nat) = 4 * 3 from rfl, d4, show (4 * 3 + 3 : Nat) = 5 * 3 from rfl, d5, show (5 * 3 + 3 : Nat) = 6 * 3 from rfl, d6, show (6 * 3 + 3 : Nat) = 7 * 3 from rfl, d7, d8] at this
    exact this
  refine ⟨tt, fr, ?_⟩
  rw [hh, show c = mustV from Array.toList_inj.1 e]
theorem laid_of {w : World} (_ : ("sundial/header.must", (Rows.laid_sundial_header_must : DataW Unit)) ∈ LL) (hL : laidMet Tryd.prog LL w) : Tab w := by
  have p := tab57 (F := placesF) (t := 58) (n := 7) (g := 0) hL (.tail _ (.head _)) (by kernel_rfl) (by kernel_rfl) (by kernel_rfl) (by kernel_rfl) rfl
  have s := tab57 (F := segF) (t := 58) (n := 7) (g := 2) hL (.tail _ (.tail _ (.head _))) (by kernel_rfl) (by kernel_rfl) (by kernel_rfl) (by kernel_rfl) rfl
  have c := tab57 (F := secF) (t := 72) (n := 5) (g := 3) hL (.tail _ (.tail _ (.tail _ (.head _)))) (by kernel_rfl) (by kernel_rfl) (by kernel_rfl) (by kernel_rfl) rfl
  exact ⟨p.1, must_of hL, s.1, c.1, c.2⟩
end Go.Proofs.YtopldeeojehklaaDoor.R
namespace Go.Proofs.YtopldeeojehklaaDoor.R
open Go.RowKit Go.Deep Go.ChangeShapes Go.WideShapes Go.ChangeAt Go.Lib Go.Proofs.YtopldeeojehklaaDoorW.PrintWords Go.Proofs.YtopldeeojehklaaDoorW.PrintLast Go.Proofs.YtopldeeojehklaaDoorW.PrintMore Go.Proofs.YtopldeeojehklaaDoor.B Go.RF
set_option linter.unusedVariables false
section
variable {H : Type} {enc : TypeId × Value → H} {P : Program} {w : World} {base : Nat} {spare : Nat → Bool} {held : Bool}
theorem open_kint {t : TypeId} {k : IntKind} {fuel : Nat} {cs : List Value} {x : DataW H × List MemPlace} (he : P.underlying t = some (.int k)) (h : DataW.trod enc P w base spare held fuel t cs = some x) : ∃ y, (Kd.int k).K w y cs ∧ (Lit.int k y).wf = true := by
  obtain ⟨n, rfl, _, hw⟩ := DataW.trod_int he h
  exact ⟨n, rfl, hw⟩
theorem open_kslice {α : Type} [Inhabited α] (d : Kd α) (good : α → Prop) {t e : TypeId} {fuel : Nat} {cs : List Value} {x : DataW H × List MemPlace} (ht : P.underlying t = some (.slice e)) (hc : P.cellsOf e = d.sz)
    (hel : ∀ fuel cs x, DataW.trod enc P w base spare held fuel e cs = some x → ∃ y, d.K w y cs ∧ good y) (h : DataW.trod enc P w base spare held fuel t cs = some x) :
    ∃ (A : Option Addr) (c : Nat) (xs : List α), cs = [.slice A xs.length c] ∧ xs.length ≤ c ∧ d.C w A xs.length xs ∧ ∀ y ∈ xs, good y := by
  rcases open_slice ht h with ⟨rfl, _⟩ | ⟨a, len, cap, m, n, D, Pl, rfl, hb, hl, hm, hmm, rfl, hx⟩
  · exact ⟨none, 0, [], rfl, Nat.le_refl _, ⟨rfl, by simp, fun h => by simp at h⟩, fun y hy => by simp at hy⟩
  have hlm : len ≤ m := by rw [hmm]; split <;> omega
  obtain ⟨q, hq⟩ := choose_lt (α := α × List Value) (n := len) (p := fun i y => w.cells? base (a.add (i * P.cellsOf e)) (P.cellsOf e) = some y.2 ∧ d.K w y.1 y.2 ∧ good y.1) (fun i hi => by
    obtain ⟨cs', h1, h2⟩ := hx i (by omega)
    obtain ⟨y, h3, h4⟩ := hel _ _ _ h2
    exact ⟨(y, cs'), h1, h3, h4⟩)
  have hlen : ((List.range len).map fun i => (q i).1).length = len := by simp
  refine ⟨some a, cap, (List.range len).map fun i => (q i).1, by rw [hlen], by rw [hlen]; exact hl, ⟨rfl, by rw [hlen]; unfold maxLen at hm; omega, fun _ => ⟨a, rfl, fun j p hj => ?_⟩⟩, fun y hy => ?_⟩
  · obtain ⟨hjl, rfl⟩ := List.getElem?_eq_some_iff.1 hj
    rw [hlen] at hjl
    obtain ⟨h1, h2, h3⟩ := hq j hjl
    obtain ⟨_, hcl, hcell⟩ := World.cells?_some h1
    refine ⟨(q j).2, by rw [hcl, hc], by simpa using h2, fun i u hu => ?_⟩
    have hi := (List.getElem?_eq_some_iff.1 hu).1
    have e1 := hcell i (by omega)
    rw [Go.Deep.add_add, hc, hu] at e1
    exact e1
  · obtain ⟨i, hi, rfl⟩ := List.mem_map.1 hy
    exact (hq i (List.mem_range.1 hi)).2.2
end
instance : Inhabited S30 := ⟨⟨0, 0, 0, 0, 0, 0, 0⟩⟩
instance : Inhabited S32 := ⟨⟨0, 0, 0, 0, 0⟩⟩
theorem rg_wf {x : Int} (h : (Lit.int .u64 x).wf = true) : Rg x := by
  have h : IntKind.u64.min ≤ x ∧ x ≤ IntKind.u64.max := by simpa [Lit.wf] using h
  have e0 : IntKind.u64.min = 0 := by decide
  have e1 : IntKind.u64.max = 18446744073709551615 := by decide
  unfold Rg
  omega
theorem g32_wf {x : Int} (h : (Lit.int .u32 x).wf = true) : G32 x := by
  have h : IntKind.u32.min ≤ x ∧ x ≤ IntKind.u32.max := by simpa [Lit.wf] using h
  have e0 : IntKind.u32.min = 0 := by decide
  have e1 : IntKind.u32.max = 4294967295 := by decide
  unfold G32
  omega
section
variable {H : Type} {enc : TypeId × Value → H} {w : World} {base : Nat} {spare : Nat → Bool} {held : Bool}
theorem bb_wf {l : List Int} (h : ∀ y ∈ l, (Lit.int .u8 y).wf = true) : BB l := by
  intro x hx
  have h : IntKind.u8.min ≤ x ∧ x ≤ IntKind.u8.max := by simpa [Lit.wf] using h x hx
  have e0 : IntKind.u8.min = 0 := by decide
  have e1 : IntKind.u8.max = 255 := by decide
  omega
theorem open_seg {fuel : Nat} {cs : List Value} {x : DataW H × List MemPlace} (h : DataW.trod enc Tryd.prog w base spare held fuel 30 cs = some x) :
    ∃ y : S30, k30.K w y cs ∧ GoodSeg y := by
  obtain ⟨xs, n, rfl, _, hcl, hxl, hf⟩ := DataW.trod_struct Tryd.underlying30 h
  have hcl' : cs.length = 7 := hcl
  have hxl' : xs.length = 7 := hxl
  match cs, hcl', xs, hxl' with
  | [v0, v1, v2, v3, v4, v5, v6], _, [y0, y1, y2, y3, y4, y5, y6], _ =>
    have g0 : DataW.trod enc Tryd.prog w base spare held n 28 [v0] = some y0 := hf 0 _ rfl
    have g1 : DataW.trod enc Tryd.prog w base spare held n 28 [v1] = some y1 := hf 1 _ rfl
    have g2 : DataW.trod enc Tryd.prog w base spare held n 23 [v2] = some y2 := hf 2 _ rfl
    have g3 : DataW.trod enc Tryd.prog w base spare held n 23 [v3] = some y3 := hf 3 _ rfl
    have g4 : DataW.trod enc Tryd.prog w base spare held n 23 [v4] = some y4 := hf 4 _ rfl
    have g5 : DataW.trod enc Tryd.prog w base spare held n 23 [v5] = some y5 := hf 5 _ rfl
    have g6 : DataW.trod enc Tryd.prog w base spare held n 23 [v6] = some y6 := hf 6 _ rfl
    obtain ⟨a0, h0, w0⟩ := open_kint Tryd.underlying28 g0
    obtain ⟨a1, h1, w1⟩ := open_kint Tryd.underlying28 g1
    obtain ⟨a2, h2, w2⟩ := open_kint Tryd.underlying23 g2
    obtain ⟨a3, h3, w3⟩ := open_kint Tryd.underlying23 g3
    obtain ⟨a4, h4, w4⟩ := open_kint Tryd.underlying23 g4
    obtain ⟨a5, h5, w5⟩ := open_kint Tryd.underlying23 g5
    obtain ⟨a6, h6, w6⟩ := open_kint Tryd.underlying23 g6
    exact ⟨⟨a0, a1, a2, a3, a4, a5, a6⟩, ⟨[v0], [v1, v2, v3, v4, v5, v6], rfl, h0, [v1], [v2, v3, v4, v5, v6], rfl, h1, [v2], [v3, v4, v5, v6], rfl, h2, [v3], [v4, v5, v6], rfl, h3, [v4], [v5, v6], rfl, h4, [v5], [v6], rfl, h5, h6⟩,
      g32_wf w0, g32_wf w1, rg_wf w2, rg_wf w3, rg_wf w4, rg_wf w5, rg_wf w6⟩
theorem open_sec {fuel : Nat} {cs : List Value} {x : DataW H × List MemPlace} (h : DataW.trod enc Tryd.prog w base spare held fuel 32 cs = some x) :
    ∃ y : S32, k32.K w y cs ∧ GoodSec y := by
  obtain ⟨xs, n, rfl, _, hcl, hxl, hf⟩ := DataW.trod_struct Tryd.underlying32 h
  have hcl' : cs.length = 5 := hcl
  have hxl' : xs.length = 5 := hxl
  match cs, hcl', xs, hxl' with
  | [v0, v1, v2, v3, v4], _, [y0, y1, y2, y3, y4], _ =>
    have g0 : DataW.trod enc Tryd.prog w base spare held n 28 [v0] = some y0 := hf 0 _ rfl
    have g1 : DataW.trod enc Tryd.prog w base spare held n 23 [v1] = some y1 := hf 1 _ rfl
    have g2 : DataW.trod enc Tryd.prog w base spare held n 23 [v2] = some y2 := hf 2 _ rfl
    have g3 : DataW.trod enc Tryd.prog w base spare held n 28 [v3] = some y3 := hf 3 _ rfl
    have g4 : DataW.trod enc Tryd.prog w base spare held n 23 [v4] = some y4 := hf 4 _ rfl
    obtain ⟨a0, h0, w0⟩ := open_kint Tryd.underlying28 g0
    obtain ⟨a1, h1, w1⟩ := open_kint Tryd.underlying23 g1
    obtain ⟨a2, h2, w2⟩ := open_kint Tryd.underlying23 g2
    obtain ⟨a3, h3, w3⟩ := open_kint Tryd.underlying28 g3
    obtain ⟨a4, h4, w4⟩ := open_kint Tryd.underlying23 g4
    exact ⟨⟨a0, a1, a2, a3, a4⟩, ⟨[v0], [v1, v2, v3, v4], rfl, h0, [v1], [v2, v3, v4], rfl, h1, [v2], [v3, v4], rfl, h2, [v3], [v4], rfl, h3, h4⟩, g32_wf w0, rg_wf w1, rg_wf w2, g32_wf w3, rg_wf w4⟩
end
def HdrIn (w : World) (cs : Array Value) : Prop := ∃ (a0 a1 a2 : Int) (A3 : Option Addr) (c3 : Nat) (S : List S30) (A4 : Option Addr) (c4 : Nat) (C : List S32),
  cs = #[.int .u64 a0, .int .u64 a1, .int .u64 a2, .slice A3 S.length c3, .slice A4 C.length c4] ∧ Kd.C k30 w A3 S.length S ∧ S.length ≤ c3 ∧ Kd.C k32 w A4 C.length C ∧ C.length ≤ c4 ∧ Rg a0 ∧ Rg a1 ∧ Rg a2 ∧ (∀ x ∈ S, GoodSeg x) ∧ (∀ x ∈ C, GoodSec x)
theorem ag_header {H : Type} {enc : TypeId × Value → H} {w : World} {base : Nat} {spare : Nat → Bool} {held : Bool} {v : Value} {d : DataW H} {ps : List MemPlace} (hv : ∃ cs, v = .agg cs ∧ cs.size = Tryd.prog.cellsOf 27) (h : DataW.Trod enc Tryd.prog w base spare held 27 v d ps) : ∃ cs, v = .agg cs ∧ HdrIn w cs := by
  obtain ⟨⟨cs⟩, rfl, hsz⟩ := hv
  have hsz' : cs.length = 5 := hsz
  obtain ⟨fuel, hf⟩ := h
  obtain ⟨xs, n, rfl, _, hcl, hxl, hF⟩ := DataW.trod_struct Tryd.underlying27 hf
  have hxl' : xs.length = 5 := hxl
  match cs, hsz', xs, hxl' with
  | [v0, v1, v2, v3, v4], _, [y0, y1, y2, y3, y4], _ =>
    have g0 : DataW.trod enc Tryd.prog w base spare held n 23 [v0] = some y0 := hF 0 _ rfl
    have g1 : DataW.trod enc Tryd.prog w base spare held n 23 [v1] = some y1 := hF 1 _ rfl
    have g2 : DataW.trod enc Tryd.prog w base spare held n 23 [v2] = some y2 := hF 2 _ rfl
    have g3 : DataW.trod enc Tryd.prog w base spare held n 24 [v3] = some y3 := hF 3 _ rfl
    have g4 : DataW.trod enc Tryd.prog w base spare held n 25 [v4] = some y4 := hF 4 _ rfl
    obtain ⟨a0, h0, w0⟩ := open_kint Tryd.underlying23 g0
    obtain ⟨a1, h1, w1⟩ := open_kint Tryd.underlying23 g1
    obtain ⟨a2, h2, w2⟩ := open_kint Tryd.underlying23 g2
    obtain ⟨A3, c3, S, e3, l3, C3, G3⟩ := open_kslice k30 GoodSeg (e := 30) (by kernel_rfl) (by kernel_rfl) (fun _ _ _ h => open_seg h) g3
    obtain ⟨A4, c4, C, e4, l4, C4, G4⟩ := open_kslice k32 GoodSec (e := 32) (by kernel_rfl) (by kernel_rfl) (fun _ _ _ h => open_sec h) g4
    have h0 : [v0] = [.int .u64 a0] := h0
    have h1 : [v1] = [.int .u64 a1] := h1
    have h2 : [v2] = [.int .u64 a2] := h2
    injection h0 with h0 _
    injection h1 with h1 _
    injection h2 with h2 _
    injection e3 with e3 _
    injection e4 with e4 _
    subst h0; subst h1; subst h2; subst e3; subst e4
    exact ⟨_, rfl, a0, a1, a2, A3, c3, S, A4, c4, C, rfl, C3, l3, C4, l4, rg_wf w0, rg_wf w1, rg_wf w2, G3, G4⟩
end Go.Proofs.YtopldeeojehklaaDoor.R
namespace Go.Proofs.YtopldeeojehklaaDoor.R
open Go.RowKit Go.Deep Go.ChangeShapes Go.WideShapes Go.ChangeAt Go.Lib Go.Proofs.YtopldeeojehklaaDoorW.PrintWords Go.Proofs.YtopldeeojehklaaDoorW.PrintLast Go.Proofs.YtopldeeojehklaaDoorW.PrintMore Go.Proofs.YtopldeeojehklaaDoor.B Go.RF
set_option linter.unusedVariables false
theorem k30_open {w : World} {t : S30} {cs : List Value} (h : k30.K w t cs) : cs = [.int .u32 t.f0, .int .u32 t.f1, .int .u64 t.f2, .int .u64 t.f3, .int .u64 t.f4, .int .u64 t.f5, .int .u64 t.f6] := by
  obtain ⟨c0, d0, rfl, h0, c1, d1, rfl, h1, c2, d2, rfl, h2, c3, d3, rfl, h3, c4, d4, rfl, h4, c5, d5, rfl, h5, h6⟩ := h
  have h0 : c0 = [.int .u32 t.f0] := h0
  have h1 : c1 = [.int .u32 t.f1] := h1
  have h2 : c2 = [.int .u64 t.f2] := h2
  have h3 : c3 = [.int .u64 t.f3] := h3
  have h4 : c4 = [.int .u64 t.f4] := h4
  have h5 : c5 = [.int .u64 t.f5] := h5
  have h6 : d5 = [.int .u64 t.f6] := h6
  subst h0; subst h1; subst h2; subst h3; subst h4; subst h5; subst h6
  rfl
theorem k32_open {w : World} {t : S32} {cs : List Value} (h : k32.K w t cs) : cs = [.int .u32 t.f0, .int .u64 t.f1, .int .u64 t.f2, .int .u32 t.f3, .int .u64 t.f4] := by
  obtain ⟨c0, d0, rfl, h0, c1, d1, rfl, h1, c2, d2, rfl, h2, c3, d3, rfl, h3, h4⟩ := h
  have h0 : c0 = [.int .u32 t.f0] := h0
  have h1 : c1 = [.int .u64 t.f1] := h1
  have h2 : c2 = [.int .u64 t.f2] := h2
  have h3 : c3 = [.int .u32 t.f3] := h3
  have h4 : d3 = [.int .u64 t.f4] := h4
  subst h0; subst h1; subst h2; subst h3; subst h4
  rfl
section
variable {H : Type} {enc : TypeId × Value → H} {w : World} {base : Nat} {spare : Nat → Bool} {held : Bool}
theorem st_seg {v : Value} {d : DataW H} {ps : List MemPlace} (hv : ∃ cs, v = .agg cs ∧ cs.size = Tryd.prog.cellsOf 30) (h : DataW.Trod enc Tryd.prog w base spare held 30 v d ps) :
    ∃ a0 a1 a2 a3 a4 a5 a6, v = .agg #[.int .u32 a0, .int .u32 a1, .int .u64 a2, .int .u64 a3, .int .u64 a4, .int .u64 a5, .int .u64 a6] ∧ GoodSeg ⟨a0, a1, a2, a3, a4, a5, a6⟩ := by
  obtain ⟨⟨cs⟩, rfl, hsz⟩ := hv
  obtain ⟨fuel, hf⟩ := h
  have hf' : DataW.trod enc Tryd.prog w base spare held fuel 30 cs = some (d, ps) := hf
  obtain ⟨y, hK, hg⟩ := open_seg hf'
  have e := k30_open hK
  subst e
  exact ⟨_, _, _, _, _, _, _, rfl, hg⟩
theorem st_sec {v : Value} {d : DataW H} {ps : List MemPlace} (hv : ∃ cs, v = .agg cs ∧ cs.size = Tryd.prog.cellsOf 32) (h : DataW.Trod enc Tryd.prog w base spare held 32 v d ps) :
    ∃ a0 a1 a2 a3 a4, v = .agg #[.int .u32 a0, .int .u64 a1, .int .u64 a2, .int .u32 a3, .int .u64 a4] ∧ GoodSec ⟨a0, a1, a2, a3, a4⟩ := by
  obtain ⟨⟨cs⟩, rfl, hsz⟩ := hv
  obtain ⟨fuel, hf⟩ := h
  have hf' : DataW.trod enc Tryd.prog w base spare held fuel 32 cs = some (d, ps) := hf
  obtain ⟨y, hK, hg⟩ := open_sec hf'
  have e := k32_open hK
  subst e
  exact ⟨_, _, _, _, _, rfl, hg⟩
end
end Go.Proofs.YtopldeeojehklaaDoor.R
namespace Go.Proofs.YtopldeeojehklaaDoor.B
open Go.RowKit Go.Proofs.YtopldeeojehklaaDoorW.PrintWords Go.Proofs.YtopldeeojehklaaDoorW.PrintMore Go.RF
set_option linter.unusedVariables false
set_option linter.unusedSimpArgs false
abbrev ob (a0 : Int) (S : List S30) (C : List S32) : List Int := objP a0 64 (64 + 56 * (S.length : Int)) S C []
theorem ob_len (a0 : Int) (S : List S30) (C : List S32) : (ob a0 S C).length = 64 + 56 * S.length + 64 * C.length := by
  rw [obj_len]; rfl
theorem ob_BB (a0 : Int) (S : List S30) (C : List S32) : BB (ob a0 S C) := obj_BB _ _ _ _ _ (by decide)
theorem ob_head (a0 : Int) (S : List S30) (C : List S32) : ob a0 S C = headP a0 64 (64 + 56 * (S.length : Int)) S.length C.length ++ ((S.map segB).flatten ++ ((C.map secB).flatten ++ [])) := rfl
def anyH (c : List Int) (d : List Int) (a0 a1 a2 : Int) (n m : Nat) : List Int :=
  [127, 69, 76, 70, 2, 1, 1] ++ (c ++ ([2, 0, 62, 0, 1, 0, 0, 0] ++ (b8 a0 ++ (b8 a1 ++ (b8 a2 ++ ([0, 0, 0, 0, 64, 0, 56, 0] ++ (b2 (IntKind.u64.wrap (n : Int)) ++ ([64, 0] ++ (b2 (IntKind.u64.wrap (m : Int)) ++ d)))))))))
theorem nine {c : List Int} (h : c.length = 9) : ∃ x0 x1 x2 x3 x4 x5 x6 x7 x8, c = [x0, x1, x2, x3, x4, x5, x6, x7, x8] := by
  match c, h with
  | [x0, x1, x2, x3, x4, x5, x6, x7, x8], _ => exact ⟨_, _, _, _, _, _, _, _, _, rfl⟩
theorem two {c : List Int} (h : c.length = 2) : ∃ x0 x1, c = [x0, x1] := by
  match c, h with
  | [x0, x1], _ => exact ⟨_, _, rfl⟩
theorem any_len {c d : List Int} (hc : c.length = 9) (hd : d.length = 2) (a0 a1 a2 : Int) (n m : Nat) : (anyH c d a0 a1 a2 n m).length = 64 := by
  obtain ⟨x0, x1, x2, x3, x4, x5, x6, x7, x8, rfl⟩ := nine hc
  obtain ⟨y0, y1, rfl⟩ := two hd
  rfl
theorem drop_X {X : List Int} (hX : X.length = 64) (r : List Int) (k : Nat) : (X ++ r).drop (64 + k) = r.drop k := by
  rw [List.drop_append, hX, List.drop_of_length_le (by rw [hX]; omega), List.nil_append]
  congr 1
  omega
theorem segs_X {X : List Int} (hX : X.length = 64) (S : List S30) (r : List Int) (hS : ∀ x ∈ S, GoodSeg x) : segsP (X ++ ((S.map segB).flatten ++ r)) 64 S.length = S := by
  unfold segsP
  conv => rhs; rw [← segs_flat S r hS]
  refine List.map_congr_left fun i hi => ?_
  rw [drop_X hX]
theorem secs_X {X : List Int} (hX : X.length = 64) (S : List S30) (C : List S32) (r : List Int) (hC : ∀ x ∈ C, GoodSec x) : secsP (X ++ ((S.map segB).flatten ++ ((C.map secB).flatten ++ r))) (64 + 56 * S.length) C.length = C := by
  unfold secsP
  conv => rhs; rw [← secs_flat C r hC]
  refine List.map_congr_left fun i hi => ?_
  rw [Nat.add_assoc, drop_X hX, List.drop_append, flat_seg_len, List.drop_of_length_le (by rw [flat_seg_len]; omega), List.nil_append, show 56 * S.length + 64 * i - 56 * S.length = 64 * i by omega]
theorem pl_any {c d : List Int} (hc : c.length = 9) (hd : d.length = 2) (a0 a1 a2 : Int) (n m : Nat) (h0 : Rg a0) (h1 : Rg a1) (h2 : Rg a2) (hn : n < 65536) (hm : m < 65536) (r : List Int) :
    pl (anyH c d a0 a1 a2 n m ++ r) 0 = a0 ∧ pl (anyH c d a0 a1 a2 n m ++ r) 1 = a1 ∧ pl (anyH c d a0 a1 a2 n m ++ r) 2 = a2 ∧ pl (anyH c d a0 a1 a2 n m ++ r) 3 = n ∧ pl (anyH c d a0 a1 a2 n m ++ r) 4 = m ∧ pl (anyH c d a0 a1 a2 n m ++ r) 5 = 56 ∧ pl (anyH c d a0 a1 a2 n m ++ r) 6 = 64 := by
  obtain ⟨x0, x1, x2, x3, x4, x5, x6, x7, x8, rfl⟩ := nine hc
  obtain ⟨y0, y1, rfl⟩ := two hd
  have e0 : pl (anyH [x0, x1, x2, x3, x4, x5, x6, x7, x8] [y0, y1] a0 a1 a2 n m ++ r) 0 = numLE (b8 a0) := rfl
  have e1 : pl (anyH [x0, x1, x2, x3, x4, x5, x6, x7, x8] [y0, y1] a0 a1 a2 n m ++ r) 1 = numLE (b8 a1) := rfl
  have e2 : pl (anyH [x0, x1, x2, x3, x4, x5, x6, x7, x8] [y0, y1] a0 a1 a2 n m ++ r) 2 = numLE (b8 a2) := rfl
  have e3 : pl (anyH [x0, x1, x2, x3, x4, x5, x6, x7, x8] [y0, y1] a0 a1 a2 n m ++ r) 3 = numLE (b2 (IntKind.u64.wrap (n : Int))) := rfl
  have e4 : pl (anyH [x0, x1, x2, x3, x4, x5, x6, x7, x8] [y0, y1] a0 a1 a2 n m ++ r) 4 = numLE (b2 (IntKind.u64.wrap (m : Int))) := rfl
  have e5 : pl (anyH [x0, x1, x2, x3, x4, x5, x6, x7, x8] [y0, y1] a0 a1 a2 n m ++ r) 5 = 56 := rfl
  have e6 : pl (anyH [x0, x1, x2, x3, x4, x5, x6, x7, x8] [y0, y1] a0 a1 a2 n m ++ r) 6 = 64 := rfl
  rw [e0, e1, e2, e3, e4, num_b8 h0, num_b8 h1, num_b8 h2, wrapU (by omega) (by omega), wrapU (by omega) (by omega), num_b2 (by omega) (by omega), num_b2 (by omega) (by omega)]
  exact ⟨rfl, rfl, rfl, rfl, rfl, e5, e6⟩
theorem any_must {c d : List Int} (hc : c.length = 9) (hd : d.length = 2) (a0 a1 a2 : Int) (n m : Nat) (r : List Int) : (anyH c d a0 a1 a2 n m ++ r).take 4 = elfS ∧ mustOk (anyH c d a0 a1 a2 n m ++ r) 8 = true := by
  obtain ⟨x0, x1, x2, x3, x4, x5, x6, x7, x8, rfl⟩ := nine hc
  obtain ⟨y0, y1, rfl⟩ := two hd
  exact ⟨rfl, rfl⟩
theorem read_any {c d : List Int} (hc : c.length = 9) (hd : d.length = 2) (a0 : Int) (S : List S30) (C : List S32) (h0 : Rg a0) (hS : ∀ x ∈ S, GoodSeg x) (hC : ∀ x ∈ C, GoodSec x) (hn : S.length ≤ 16) (hm : C.length ≤ 32) :
    readP (anyH c d a0 64 (64 + 56 * (S.length : Int)) S.length C.length ++ ((S.map segB).flatten ++ ((C.map secB).flatten ++ []))) = (a0, 64, 64 + 56 * (S.length : Int), S, C, 0) := by
  have hX := any_len hc hd a0 64 (64 + 56 * (S.length : Int)) S.length C.length
  obtain ⟨p0, p1, p2, p3, p4, p5, p6⟩ := pl_any hc hd a0 64 (64 + 56 * (S.length : Int)) S.length C.length h0 ⟨by decide, by decide⟩ ⟨by omega, by omega⟩ (by omega) (by omega) ((S.map segB).flatten ++ ((C.map secB).flatten ++ []))
  obtain ⟨m0, m1⟩ := any_must hc hd a0 64 (64 + 56 * (S.length : Int)) S.length C.length ((S.map segB).flatten ++ ((C.map secB).flatten ++ []))
  have e1 := segs_X hX S ((C.map secB).flatten ++ []) hS
  have e2 := secs_X hX S C [] hC
  generalize hO : anyH c d a0 64 (64 + 56 * (S.length : Int)) S.length C.length ++ ((S.map segB).flatten ++ ((C.map secB).flatten ++ [])) = O at *
  have hl : O.length = 64 + 56 * S.length + 64 * C.length := by
    rw [← hO, List.length_append, hX, List.length_append, List.length_append, flat_seg_len, flat_sec_len]
    show 64 + (56 * S.length + (64 * C.length + 0)) = _
    omega
  have hr1 : rightP O = true := by
    unfold rightP
    rw [p3, p4, p5, p6, m1]
    unfold right0
    simp; omega
  unfold readP
  rw [if_neg (by omega), if_neg (by omega), if_neg (by rw [m0]; exact fun h => h rfl), if_neg (by rw [hr1]; decide), p0, p1, p2, p3, p4, hl]
  have t1 : (64 : Int).toNat = 64 := rfl
  have t2 : (64 + 56 * (S.length : Int)).toNat = 64 + 56 * S.length := by omega
  have t3 : ((S.length : Int)).toNat = S.length := by omega
  have t4 : ((C.length : Int)).toNat = C.length := by omega
  rw [t1, t2, t3, t4, if_neg (by unfold badP; omega), e1, e2]
end Go.Proofs.YtopldeeojehklaaDoor.B
namespace Go.Proofs.YtopldeeojehklaaDoor.B
open Go.RowKit Go.Lib Go.Proofs.YtopldeeojehklaaDoorW.PrintWords Go.Proofs.YtopldeeojehklaaDoorW.PrintLast Go.Proofs.YtopldeeojehklaaDoorW.PrintMore Go.RF
set_option linter.unusedVariables false
set_option linter.unusedSimpArgs false
attribute [local go_sem] max2_int min2_int max_two min_two
def ErS (w0 : World) (gb g cap : Nat) (xs : List Int) (cs : Array Value) (w : World) : Prop :=
  w.heap[gb]? = some (.cells cs 27 (0, 0)) ∧ OB w0.heap.size g cap xs w ∧ Tab w ∧ Below w0.heap.size w0 w
theorem ErS.met {w0 w w' : World} {gb g cap : Nat} {xs : List Int} {cs : Array Value} (h : ErS w0 gb g cap xs cs w) (hb : Below w.heap.size w w') : ErS w0 gb g cap xs cs w' :=
  ⟨heap_below hb h.1, h.2.1.met hb, h.2.2.1.below hb, below_step h.2.2.2 hb⟩
def ErT (w0 : World) (g10 g cap : Nat) (xs : List Int) (cs : Array Value) (w : World) : Prop :=
  w.heap[g10]? = some (.cells cs 27 (0, 0)) ∧ OB w0.heap.size g cap xs w ∧ Tab w ∧ Below w0.heap.size w0 w
theorem ErT.met {w0 w w' : World} {g10 g cap : Nat} {xs : List Int} {cs : Array Value} (h : ErT w0 g10 g cap xs cs w) (hb : Below w.heap.size w w') : ErT w0 g10 g cap xs cs w' :=
  ⟨heap_below hb h.1, h.2.1.met hb, h.2.2.1.below hb, below_step h.2.2.2 hb⟩
theorem cells_of_R {α : Type} {d : Kd α} {e b : Nat} {ok : Nat → Prop} {w : World} {A : Option Addr} {c : Nat} {xs : List α} (h : d.R e w b ok (.slice A xs.length c) xs) : d.C w A xs.length xs ∧ xs.length ≤ c := by
  obtain ⟨h1, h2, h3⟩ := Kd.R_reads' h
  exact ⟨h3, h2⟩
end Go.Proofs.YtopldeeojehklaaDoor.B
