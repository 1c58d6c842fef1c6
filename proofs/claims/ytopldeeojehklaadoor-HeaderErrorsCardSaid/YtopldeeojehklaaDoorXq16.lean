/- HeaderErrors walked. HeaderErrors' walk in the row's form. The law sundiallaw03_HeaderErrors answers true for every input that the row admits, and the input reads as it did. Conditions: those of the given row alone. (Printed by rowgen.py out of the walk and the plain law.) -/
import Derived.Test.YtopldeeojehklaaDoorXq15
import Derived.Test.YtopldeeojehklaaDoorXq14
import Derived.Test.YtopldeeojehklaaDoorXq4
import Derived.Test.YtopldeeojehklaaDoorTie
import Derived.Test.YtopldeeojehklaaDoorCards
import Derived.Lay
import Derived.LaidOnce
import Derived.SevenTiedAt
import Derived.Test.YtopldeeojehklaaDoorRows
import Derived.WalkKit
import Derived.ProofKit
import Derived.OpenShut
import Derived.ShutString
import Derived.ChangeOld
import Derived.Below
import Derived.SizedLaws
namespace Go.Proofs.YtopldeeojehklaaDoor.B
open Go.RowKit Go.Lib Go.Proofs.YtopldeeojehklaaDoorW.PrintWords Go.Proofs.YtopldeeojehklaaDoorW.PrintLast Go.Proofs.YtopldeeojehklaaDoorW.PrintMore Go.RF
set_option linter.unusedVariables false
set_option linter.unusedSimpArgs false
attribute [local go_sem] max2_int min2_int max_two min_two
def xr (x y : Int) : Int := ((BitVec.ofInt 8 x ^^^ BitVec.ofInt 8 y).toNat : Int)
theorem xr_rg (x y : Int) : 0 ≤ xr x y ∧ xr x y < 256 := by
  unfold xr
  have := (BitVec.ofInt 8 x ^^^ BitVec.ofInt 8 y).isLt
  omega
theorem xr_ne {x y : Int} (hx : 0 ≤ x ∧ x < 256) (hy : 0 < y ∧ y < 256) : xr x y ≠ x := by
  intro h
  unfold xr at h
  have h2 : (BitVec.ofInt 8 x ^^^ BitVec.ofInt 8 y).toNat = (BitVec.ofInt 8 x).toNat := by
    rw [BitVec.toNat_ofInt]
    omega
  have h3 := BitVec.eq_of_toNat_eq h2
  have h4 : BitVec.ofInt 8 y = 0#8 := by
    have := congrArg (fun z => BitVec.ofInt 8 x ^^^ z) h3
    simpa [← BitVec.xor_assoc] using this
  have h5 := congrArg BitVec.toNat h4
  rw [BitVec.toNat_ofInt] at h5
  simp at h5
  omega
set_option maxHeartbeats 8000000 in
set_option maxRecDepth 100000 in
theorem errors_wakes_a (a0 a1 a2 : Int) (A3 : Option Addr) (c3 : Nat) (S : List S30) (A4 : Option Addr) (c4 : Nat) (C : List S32) (at_ by_ cut : Int) (w : World) (hC3 : Kd.C k30 w A3 S.length S) (hl3 : S.length ≤ c3) (hC4 : Kd.C k32 w A4 C.length C) (hl4 : C.length ≤ c4) (hT : Tab w) (hh : 16 < S.length) :
    Calls Tryd.prog 5 #[.agg #[.int .u64 a0, .int .u64 a1, .int .u64 a2, .slice A3 S.length c3, .slice A4 C.length c4], .int .i64 at_, .int .u8 by_, .int .i64 cut] w fun e w' => e = .returned (.bool true) ∧ Below w.heap.size w w' := by
  have d1 : decide ((16 : Int) < (S.length : Int)) = true := decide_eq_true (by omega)
  have hu27 := Tryd.underlying27
  have HT := Aside0.mk hT
  clear hT
  go_enter Tryd.func5, Tryd.ntmps5
  go_wp2_with (first | (((with_reducible refine gate_dst (N := 4) rfl ?_); (try (refine gate_guard (by rfl) ?_; dsimp only)); refine box_event ?hg (N := 4) ?hd (cs := #[.int .u64 a0, .int .u64 a1, .int .u64 a2, .slice A3 S.length c3, .slice A4 C.length c4]) (t := 27) ?hr ?_; (case hd => rfl); (case hg => rfl); (case hr => first | (go_simp; done) | (go_simp; rfl)); intro gb hg w1 hbox hb; have HGB := Aside0.mk hg; have BK := Aside0.mk hbox; have HB := Aside0.mk hb; clear hg hbox hb); have hcz3 : w1.cell? ⟨gb, 3, none⟩ = some (.slice A3 S.length c3) := (bC_ BK.out 3).trans rfl; have hcz4 : w1.cell? ⟨gb, 4, none⟩ = some (.slice A4 C.length c4) := (bC_ BK.out 4).trans rfl) | (go_at_call 9; refine (sundiallaw03_wakes.calls true _ (Tab.below HT.out HB.out) wakes_f).mono ?_; rintro e w2 ⟨rfl, hb2⟩))
  go_ret
  exact ⟨rfl, below_step HB.out hb2⟩
set_option maxHeartbeats 8000000 in
set_option maxRecDepth 100000 in
theorem errors_wakes_b (a0 a1 a2 : Int) (A3 : Option Addr) (c3 : Nat) (S : List S30) (A4 : Option Addr) (c4 : Nat) (C : List S32) (at_ by_ cut : Int) (w : World) (hC3 : Kd.C k30 w A3 S.length S) (hl3 : S.length ≤ c3) (hC4 : Kd.C k32 w A4 C.length C) (hl4 : C.length ≤ c4) (hT : Tab w) (hh : S.length ≤ 16 ∧ 32 < C.length) :
    Calls Tryd.prog 5 #[.agg #[.int .u64 a0, .int .u64 a1, .int .u64 a2, .slice A3 S.length c3, .slice A4 C.length c4], .int .i64 at_, .int .u8 by_, .int .i64 cut] w fun e w' => e = .returned (.bool true) ∧ Below w.heap.size w w' := by
  have d1 : decide ((16 : Int) < (S.length : Int)) = false := decide_eq_false (by omega)
  have d2 : decide ((32 : Int) < (C.length : Int)) = true := decide_eq_true (by omega)
  have hu27 := Tryd.underlying27
  have HT := Aside0.mk hT
  clear hT
  go_enter Tryd.func5, Tryd.ntmps5
  go_wp2_with (first | (((with_reducible refine gate_dst (N := 4) rfl ?_); (try (refine gate_guard (by rfl) ?_; dsimp only)); refine box_event ?hg (N := 4) ?hd (cs := #[.int .u64 a0, .int .u64 a1, .int .u64 a2, .slice A3 S.length c3, .slice A4 C.length c4]) (t := 27) ?hr ?_; (case hd => rfl); (case hg => rfl); (case hr => first | (go_simp; done) | (go_simp; rfl)); intro gb hg w1 hbox hb; have HGB := Aside0.mk hg; have BK := Aside0.mk hbox; have HB := Aside0.mk hb; clear hg hbox hb); have hcz3 : w1.cell? ⟨gb, 3, none⟩ = some (.slice A3 S.length c3) := (bC_ BK.out 3).trans rfl; have hcz4 : w1.cell? ⟨gb, 4, none⟩ = some (.slice A4 C.length c4) := (bC_ BK.out 4).trans rfl) | (go_at_call 9; refine (sundiallaw03_wakes.calls true _ (Tab.below HT.out HB.out) wakes_f).mono ?_; rintro e w2 ⟨rfl, hb2⟩))
  go_ret
  exact ⟨rfl, below_step HB.out hb2⟩
set_option maxHeartbeats 8000000 in
set_option maxRecDepth 100000 in
theorem errors_wakes_c (a0 a1 a2 : Int) (A3 : Option Addr) (c3 : Nat) (S : List S30) (A4 : Option Addr) (c4 : Nat) (C : List S32) (at_ by_ cut : Int) (w : World) (hC3 : Kd.C k30 w A3 S.length S) (hl3 : S.length ≤ c3) (hC4 : Kd.C k32 w A4 C.length C) (hl4 : C.length ≤ c4) (hT : Tab w) (hh : S.length ≤ 16 ∧ C.length ≤ 32 ∧ by_ = 0) :
    Calls Tryd.prog 5 #[.agg #[.int .u64 a0, .int .u64 a1, .int .u64 a2, .slice A3 S.length c3, .slice A4 C.length c4], .int .i64 at_, .int .u8 by_, .int .i64 cut] w fun e w' => e = .returned (.bool true) ∧ Below w.heap.size w w' := by
  obtain ⟨hh1, hh2, rfl⟩ := hh
  have d1 : decide ((16 : Int) < (S.length : Int)) = false := decide_eq_false (by omega)
  have d2 : decide ((32 : Int) < (C.length : Int)) = false := decide_eq_false (by omega)
  have hu27 := Tryd.underlying27
  have HT := Aside0.mk hT
  clear hT
  go_enter Tryd.func5, Tryd.ntmps5
  go_wp2_with (first | (((with_reducible refine gate_dst (N := 4) rfl ?_); (try (refine gate_guard (by rfl) ?_; dsimp only)); refine box_event ?hg (N := 4) ?hd (cs := #[.int .u64 a0, .int .u64 a1, .int .u64 a2, .slice A3 S.length c3, .slice A4 C.length c4]) (t := 27) ?hr ?_; (case hd => rfl); (case hg => rfl); (case hr => first | (go_simp; done) | (go_simp; rfl)); intro gb hg w1 hbox hb; have HGB := Aside0.mk hg; have BK := Aside0.mk hbox; have HB := Aside0.mk hb; clear hg hbox hb); have hcz3 : w1.cell? ⟨gb, 3, none⟩ = some (.slice A3 S.length c3) := (bC_ BK.out 3).trans rfl; have hcz4 : w1.cell? ⟨gb, 4, none⟩ = some (.slice A4 C.length c4) := (bC_ BK.out 4).trans rfl) | (go_at_call 9; refine (sundiallaw03_wakes.calls true _ (Tab.below HT.out HB.out) wakes_f).mono ?_; rintro e w2 ⟨rfl, hb2⟩))
  go_ret
  exact ⟨rfl, below_step HB.out hb2⟩
def ErS (w0 : World) (gb g cap : Nat) (xs : List Int) (cs : Array Value) (w : World) : Prop :=
  w.heap[gb]? = some (.cells cs 27 (0, 0)) ∧ OB w0.heap.size g cap xs w ∧ Tab w ∧ Below w0.heap.size w0 w
theorem ErS.met {w0 w w' : World} {gb g cap : Nat} {xs : List Int} {cs : Array Value} (h : ErS w0 gb g cap xs cs w) (hb : Below w.heap.size w w') : ErS w0 gb g cap xs cs w' :=
  ⟨heap_below hb h.1, h.2.1.met hb, h.2.2.1.below hb, below_step h.2.2.2 hb⟩
theorem slice_m (g n cap : Nat) (m : Int) (m' : Nat) (h : m = (m' : Int)) (hm : m' ≤ cap) (W : World) : (Instr.slice 22 (.slice (some ⟨g, 0, none⟩) n cap) none (some (.int .i64 m)) none).run Tryd.prog W = .ok (.slice (some ⟨g, 0, none⟩) m' cap) W := by
  subst h
  have hu : Tryd.prog.underlying 22 = some (.slice 5) := by kernel_rfl
  have hcl : Tryd.prog.cellsOf 5 = 1 := by kernel_rfl
  have h2 : (m' : Int) ≤ (cap : Int) := by omega
  have h1 : (0 : Int) ≤ (m' : Int) := by omega
  go_simp
theorem tmod_rg {x y : Int} (hy : 0 < y) : - y < x.tmod y ∧ x.tmod y < y := by
  have h1 := Int.tmod_lt_of_pos x hy
  have h2 := Int.tmod_lt_of_pos (-x) hy
  rw [Int.neg_tmod] at h2
  omega
theorem read_to (b g cap m : Nat) (xs : List Int) (w : World) (ho : OB b g cap xs w) (hm : m ≤ xs.length) (hb : BB xs) (hT : Tab w) :
    Calls Tryd.prog 10 #[.slice (some ⟨g, 0, none⟩) m cap] w fun e w' => ∃ v3_ v4_ : Value, e = .returned (.tuple #[.agg #[.int .u64 (readP (xs.take m)).1, .int .u64 (readP (xs.take m)).2.1, .int .u64 (readP (xs.take m)).2.2.1, v3_, v4_], .int .i64 (readP (xs.take m)).2.2.2.2.2]) ∧
      Kd.R k30 30 w' w.heap.size (fun _ => True) v3_ (readP (xs.take m)).2.2.2.1 ∧ Kd.R k32 32 w' w.heap.size (fun _ => True) v4_ (readP (xs.take m)).2.2.2.2.1 ∧ Below w.heap.size w w' := by
  have hl : (xs.take m).length = m := by rw [List.length_take]; omega
  have h1 := (ho.take m).C
  rw [hl] at h1
  have h2 := header_Read.calls (some ⟨g, 0, none⟩) cap (xs.take m) (readP (xs.take m)).1 (readP (xs.take m)).2.1 (readP (xs.take m)).2.2.1 (readP (xs.take m)).2.2.2.1 (readP (xs.take m)).2.2.2.2.1 (readP (xs.take m)).2.2.2.2.2 w (by rw [hl]; exact h1) (by rw [hl]; have := ho.cap_le; omega) hT
    (by unfold header_Read.f; rw [G.Read_eq, if_pos (hb.take m)])
  rw [hl] at h2
  exact h2
def ErT (w0 : World) (g10 g cap : Nat) (xs : List Int) (cs : Array Value) (w : World) : Prop :=
  w.heap[g10]? = some (.cells cs 27 (0, 0)) ∧ OB w0.heap.size g cap xs w ∧ Tab w ∧ Below w0.heap.size w0 w
theorem ErT.met {w0 w w' : World} {g10 g cap : Nat} {xs : List Int} {cs : Array Value} (h : ErT w0 g10 g cap xs cs w) (hb : Below w.heap.size w w') : ErT w0 g10 g cap xs cs w' :=
  ⟨heap_below hb h.1, h.2.1.met hb, h.2.2.1.below hb, below_step h.2.2.2 hb⟩
theorem ErT.set {w0 w : World} {g10 g cap : Nat} {xs : List Int} {cs : Array Value} (hT : Tab w0) (h : ErT w0 g10 g cap xs cs w) (j : Nat) (y : Int) : ErT w0 g10 g cap (xs.set j y) cs (w.setCell ⟨g, j, none⟩ (.int .u8 y)) := by
  have hb := bS_ (j := j) (v := .int .u8 y) h.2.2.2 h.2.1.1
  exact ⟨blk_far h.1 (p := ⟨g, j, none⟩) (fun e => h.2.1.ne h.1 (by decide) e.symm) _, h.2.1.set j y, hT.below hb, hb⟩
theorem C30_z (w : World) (A : Option Addr) : Kd.C k30 w A 0 ([] : List S30) := ⟨rfl, by decide, fun h => absurd h (by decide)⟩
theorem C32_z (w : World) (A : Option Addr) : Kd.C k32 w A 0 ([] : List S32) := ⟨rfl, by decide, fun h => absurd h (by decide)⟩
theorem set_BB {l : List Int} (h : BB l) (j : Nat) {y : Int} (hy : 0 ≤ y ∧ y < 256) : BB (l.set j y) := by
  intro x hx
  rcases List.mem_or_eq_of_mem_set hx with h' | rfl
  · exact h x h'
  · exact hy
theorem bits_x (x y : Int) : bits .xor .u8 x y = xr x y := by
  have e : IntKind.u8.wrap (xr x y) = xr x y := by rw [IntKind.wrap_u8]; have := xr_rg x y; omega
  exact e
theorem read_all (b g cap n : Nat) (xs : List Int) (e6 : Int) (w : World) (ho : OB b g cap xs w) (hn : xs.length = n) (hb : BB xs) (hT : Tab w) (hr : ∃ q0 q1 q2 Q3 Q4, readP xs = (q0, q1, q2, Q3, Q4, e6)) :
    Calls Tryd.prog 10 #[.slice (some ⟨g, 0, none⟩) n cap] w fun e w' => ∃ (q0 q1 q2 : Int) (A3 : Option Addr) (n3 c3 : Nat) (A4 : Option Addr) (n4 c4 : Nat), e = .returned (.tuple #[.agg #[.int .u64 q0, .int .u64 q1, .int .u64 q2, .slice A3 n3 c3, .slice A4 n4 c4], .int .i64 e6]) ∧ Below w.heap.size w w' := by
  obtain ⟨q0, q1, q2, Q3, Q4, hr⟩ := hr
  subst hn
  refine (header_Read.calls (some ⟨g, 0, none⟩) cap xs q0 q1 q2 Q3 Q4 e6 w ho.C ho.cap_le hT (by unfold header_Read.f; rw [G.Read_eq, if_pos hb, hr])).mono ?_
  rintro e w' ⟨v3, v4, rfl, hr3, hr4, hb'⟩
  obtain ⟨A3, c3, rfl⟩ := Kd.R_slice hr3
  obtain ⟨A4, c4, rfl⟩ := Kd.R_slice hr4
  exact ⟨_, _, _, _, _, _, _, _, _, rfl, hb'⟩
set_option maxHeartbeats 8000000 in
set_option maxRecDepth 100000 in
theorem errors_main (a0 a1 a2 : Int) (A3 : Option Addr) (c3 : Nat) (S : List S30) (A4 : Option Addr) (c4 : Nat) (C : List S32) (at_ by_ cut : Int) (w : World) (hC3 : Kd.C k30 w A3 S.length S) (hl3 : S.length ≤ c3) (hC4 : Kd.C k32 w A4 C.length C) (hl4 : C.length ≤ c4) (hT : Tab w) (hg : Rg a0 ∧ (∀ x ∈ S, GoodSeg x) ∧ (∀ x ∈ C, GoodSec x)) (h3 : S.length ≤ 16) (h4 : C.length ≤ 32) (hby : 0 < by_ ∧ by_ < 256) :
    Calls Tryd.prog 5 #[.agg #[.int .u64 a0, .int .u64 a1, .int .u64 a2, .slice A3 S.length c3, .slice A4 C.length c4], .int .i64 at_, .int .u8 by_, .int .i64 cut] w fun e w' => e = .returned (.bool true) ∧ Below w.heap.size w w' := by
  have d1 : decide ((16 : Int) < (S.length : Int)) = false := decide_eq_false (by omega)
  have d2 : decide ((32 : Int) < (C.length : Int)) = false := decide_eq_false (by omega)
  have d3 : (by_ == 0) = false := by simp; omega
  have hu27 := Tryd.underlying27
  have HT := Aside0.mk hT
  have HG := Aside0.mk hg
  clear hT hg
  go_enter Tryd.func5, Tryd.ntmps5
  go_upto_region 3 with (first | (((with_reducible refine gate_dst (N := 4) rfl ?_); (try (refine gate_guard (by rfl) ?_; dsimp only)); refine box_event ?hg (N := 4) ?hd (cs := #[.int .u64 a0, .int .u64 a1, .int .u64 a2, .slice A3 S.length c3, .slice A4 C.length c4]) (t := 27) ?hr ?_; (case hd => rfl); (case hg => rfl); (case hr => first | (go_simp; done) | (go_simp; rfl)); intro gb hg w1 hbox hb; have HGB := Aside0.mk hg; have BK := Aside0.mk hbox; have HB := Aside0.mk hb; clear hg hbox hb); have hcz3 : w1.cell? ⟨gb, 3, none⟩ = some (.slice A3 S.length c3) := (bC_ BK.out 3).trans rfl; have hcz4 : w1.cell? ⟨gb, 4, none⟩ = some (.slice A4 C.length c4) := (bC_ BK.out 4).trans rfl))
  clear d1 d2 d3 hcz3 hcz4
  have hcz0 : w1.cell? ⟨gb, 0, none⟩ = some (.int .u64 a0) := (bC_ BK.out 0).trans rfl
  have hcz1 : w1.cell? ⟨gb, 1, none⟩ = some (.int .u64 a1) := (bC_ BK.out 1).trans rfl
  have hcz2 : w1.cell? ⟨gb, 2, none⟩ = some (.int .u64 a2) := (bC_ BK.out 2).trans rfl
  have hcz3 : w1.cell? ⟨gb, 3, none⟩ = some (.slice A3 S.length c3) := (bC_ BK.out 3).trans rfl
  have hcz4 : w1.cell? ⟨gb, 4, none⟩ = some (.slice A4 C.length c4) := (bC_ BK.out 4).trans rfl
  go_upto_region 4 with (go_at_call 24; refine (sundialref03_Laid.calls 1000 a0 a1 a2 A3 c3 S A4 c4 C none 0 [] _ _ (Kd.C_below hC3 HB.out) hl3 (Kd.C_below hC4 HB.out) hl4 ⟨rfl, by decide, fun h => absurd h (by decide)⟩ (Nat.le_refl 0) (rlaid a0 a1 a2 S C [] (by omega) (by omega) (by decide) 1000 (by omega))).mono ?_; rintro e w2 ⟨v, rfl, hR, hb2⟩)
  obtain ⟨g, cap, rfl, hO⟩ := OB.of_R hR (by have := ob_len a0 S C; unfold ob at this; omega)
  have hxl := ob_len a0 S C
  have hbb := ob_BB a0 S C
  obtain ⟨xs, hxs⟩ : ∃ xs, objP a0 64 (64 + 56 * (S.length : Int)) S C [] = xs := ⟨_, rfl⟩
  have HXS := Aside0.mk hxs
  unfold ob at hxl hbb
  rw [hxs] at hO hxl hbb
  have HE := Aside0.mk (show ErS w gb g cap xs #[.int .u64 a0, .int .u64 a1, .int .u64 a2, .slice A3 S.length c3, .slice A4 C.length c4] w2 from ⟨heap_below hb2 BK.out, ⟨Nat.le_trans HB.out.size hO.1, hO.2⟩, HT.out.below (below_step HB.out hb2), below_step HB.out hb2⟩)
  have HBB := Aside0.mk hbb
  clear hcz0 hcz1 hcz2 hcz3 hcz4 hR hO hb2 HB BK hbb
  (try simp only [hxs])
  clear hxs
  obtain ⟨n, hn⟩ : ∃ n, xs.length = n := ⟨_, rfl⟩
  have HN := Aside0.mk hn
  have HN2 := Aside0.mk (hn ▸ hxl)
  (try simp only [hn])
  clear hn hxl
  have w1_ : wrap64 ((n : Int) + 1) = (n : Int) + 1 := by unfold wrap64; have := HN2.out; omega
  have nz_ : ¬ ((n : Int) + 1 = 0) := by omega
  have w2_ : wrap64 ((cut.tmod ((n : Int) + 1)) + (n : Int)) = (cut.tmod ((n : Int) + 1)) + (n : Int) := by unfold wrap64; have := HN2.out; have := tmod_rg (x := cut) (y := (n : Int) + 1) (by omega); omega
  have w3_ : wrap64 (((cut.tmod ((n : Int) + 1)) + (n : Int) + 1)) = ((cut.tmod ((n : Int) + 1)) + (n : Int) + 1) := by unfold wrap64; have := HN2.out; have := tmod_rg (x := cut) (y := (n : Int) + 1) (by omega); omega
  go_upto_region 5 with (fail)
  clear w1_ nz_ w2_ w3_
  obtain ⟨q, hq, hqn⟩ : ∃ q : Nat, (((cut.tmod ((n : Int) + 1)) + (n : Int) + 1).tmod ((n : Int) + 1)) = (q : Int) ∧ q ≤ n := by
    have h1 := tmod_rg (x := cut) (y := (n : Int) + 1) (by omega)
    have h2 := tmod_rg (x := ((cut.tmod ((n : Int) + 1)) + (n : Int) + 1)) (y := (n : Int) + 1) (by omega)
    have h3 := Int.tmod_nonneg ((n : Int) + 1) (a := ((cut.tmod ((n : Int) + 1)) + (n : Int) + 1)) (by omega)
    exact ⟨(((cut.tmod ((n : Int) + 1)) + (n : Int) + 1).tmod ((n : Int) + 1)).toNat, by omega, by omega⟩
  (try simp only [hq])
  have HQ := Aside0.mk hqn
  clear hq hqn
  have hcut : ∀ W : World, (Instr.slice 22 (.slice (some ⟨g, 0, none⟩) n cap) none (some (.int .i64 (wrap64 ((n : Int) - (q : Int))))) none).run Tryd.prog W = .ok (.slice (some ⟨g, 0, none⟩) (n - q) cap) W := slice_m g n cap _ (n - q) (by unfold wrap64; have := HN2.out; have := HQ.out; omega) (by have := HE.out.2.1.cap_le; rw [HN.out] at this; omega)
  go_upto_block 0 with (first | (go_at_call 10; refine (read_to w.heap.size g cap (n - q) xs _ HE.out.2.1 (by rw [HN.out]; omega) HBB.out HE.out.2.2.1).mono ?_; rintro e w3 ⟨v3, v4, rfl, hr3, hr4, hb⟩; have HE3 := Aside0.mk (HE.out.met hb); have HR3 := Aside0.mk hr3; have HR4 := Aside0.mk hr4; obtain ⟨A5, c5, rfl⟩ := Kd.R_slice hr3; obtain ⟨A6, c6, rfl⟩ := Kd.R_slice hr4; clear hb hr3 hr4) | ((with_reducible refine gate_dst (N := 10) rfl ?_); refine box_event ?hg (N := 10) ?hd (cs := #[.int .u64 0, .int .u64 0, .int .u64 0, .slice none 0 0, .slice none 0 0]) (t := 27) ?hr ?_; (case hd => rfl); (case hg => rfl); (case hr => first | (go_simp; done) | (go_simp; rfl)); intro g10 hg w4 hbox hb; have BK_g10 := Aside0.mk hbox; have HE4 := Aside0.mk (HE3.out.met hb); have HG10 := Aside0.mk hg; have HB4 := Aside0.mk hb; clear hg hbox hb) | (with_reducible refine wpList_store_row rfl 27 (.tmp 10) (.tmp 56) rfl g10 #[.int .u64 (readP (xs.take (n - q))).1, .int .u64 (readP (xs.take (n - q))).2.1, .int .u64 (readP (xs.take (n - q))).2.2.1, .slice A5 (readP (xs.take (n - q))).2.2.2.1.length c5, .slice A6 (readP (xs.take (n - q))).2.2.2.2.1.length c6] rfl rfl 27 #[.int .u64 0, .int .u64 0, .int .u64 0, .slice none 0 0, .slice none 0 0] BK_g10.out (by kernel_rfl) rfl (by simp [Value.oneCell']) ?_))
  obtain ⟨w5, hw5⟩ : ∃ w5, w4.setRow g10 #[.int .u64 (readP (xs.take (n - q))).1, .int .u64 (readP (xs.take (n - q))).2.1, .int .u64 (readP (xs.take (n - q))).2.2.1, .slice A5 (readP (xs.take (n - q))).2.2.2.1.length c5, .slice A6 (readP (xs.take (n - q))).2.2.2.2.1.length c6] = w5 := ⟨_, rfl⟩
  have hb35 : Below w3.heap.size w3 w5 := by rw [← hw5]; exact below_setRow HB4.out (Nat.le_of_eq HG10.out.symm) _
  have HE5 := Aside0.mk (show ErT w g10 g cap xs #[.int .u64 (readP (xs.take (n - q))).1, .int .u64 (readP (xs.take (n - q))).2.1, .int .u64 (readP (xs.take (n - q))).2.2.1, .slice A5 (readP (xs.take (n - q))).2.2.2.1.length c5, .slice A6 (readP (xs.take (n - q))).2.2.2.2.1.length c6] w5 from
    ⟨by rw [← hw5]; exact setRow_heap _ _ _ _ _ _ BK_g10.out, HE3.out.2.1.met hb35, HE3.out.2.2.1.below hb35, below_step HE3.out.2.2.2 hb35⟩)
  rw [hw5]
  clear hw5 hb35 HE HE3 HE4 HR3 HR4 HG10 HB4 BK_g10 hcut
  go_cut [12] from 18 (fun v12 wc => v12 = .int .i64 (cutE n (n - q)) ∧ Aside0 (wc = w5))
  case first =>
    have hqn := HQ.out
    by_cases k1 : n - q < 64
    · have d1 : decide (wrap64 ((n : Int) - (q : Int)) < 64) = true := decide_eq_true (by unfold wrap64; have := HN2.out; omega)
      have HV := Aside0.mk (show cutE n (n - q) = 30 by unfold cutE; rw [if_pos k1])
      clear k1 hqn
      go_wp2
      go_meet
      case rel => exact ⟨by rw [HV.out], ⟨rfl⟩⟩
    · have d1 : decide (wrap64 ((n : Int) - (q : Int)) < 64) = false := decide_eq_false (by unfold wrap64; have := HN2.out; omega)
      by_cases k2 : n - q < n
      · have d2 : decide (0 < q) = true := decide_eq_true (by omega)
        have d3 : 0 < q := by omega
        have HV := Aside0.mk (show cutE n (n - q) = 33 by unfold cutE; rw [if_neg k1, if_pos k2])
        clear k1 k2 hqn
        go_wp2
        go_meet
        case rel => exact ⟨by rw [HV.out], ⟨rfl⟩⟩
      · have d2 : decide (0 < q) = false := decide_eq_false (by have := HN2.out; omega)
        have d3 : ¬ 0 < q := by have := HN2.out; omega
        have HV := Aside0.mk (show cutE n (n - q) = 0 by unfold cutE; rw [if_neg k1, if_neg k2])
        clear k1 k2 hqn
        go_wp2
        go_meet
        case rel => exact ⟨by rw [HV.out], ⟨rfl⟩⟩
  case rest =>
    obtain ⟨rfl, hw⟩ := hcut
    obtain rfl := hw.out
    clear hw
    go_upto_region 12 with (first | ((with_reducible refine gate_dst (N := 68) rfl ?_); refine Kd.R_make (Kd.int .u8) _ 5 rfl (N := 68) rfl 22 _ _ rfl 131073 rfl rfl Tryd.underlying22 (.int .u8 0) 1 info5 rfl (by decide) (by omega) 0 (ok := fun _ => True) (okp := fun _ => True) rfl (fun _ hk => hk) trivial (by omega) (by omega) (Below.refl _ _) (Nat.le_refl _) ?_; intro v8 w6 hr hb hg_ hnew_; obtain ⟨A8, c8, rfl⟩ := Kd.R_slice hr; rw [show (List.replicate (131073 : Int).toNat (0 : Int)).length = 131073 from List.length_replicate]; have HE6 := Aside0.mk (HE5.out.met hb); clear hr hb hg_ hnew_) | (go_at_call 10; refine (read_big A8 131073 c8 _ (by decide)).mono ?_; rintro e w7 ⟨rfl, hb⟩; have HE7 := Aside0.mk (HE6.out.met hb); clear hb) | ((with_reducible refine gate_dst (N := 13) rfl ?_); refine box_event ?hg (N := 13) ?hd (cs := #[.int .u64 0, .int .u64 0, .int .u64 0, .slice none 0 0, .slice none 0 0]) (t := 27) ?hr ?_; (case hd => rfl); (case hg => rfl); (case hr => first | (go_simp; done) | (go_simp; rfl)); intro g13 hg w8 hbox hb; have BK_g13 := Aside0.mk hbox; have HB8 := Aside0.mk hb; have HG13 := Aside0.mk hg; clear hg hbox hb) | (with_reducible refine wpList_store_row rfl 27 (.tmp 13) (.tmp 70) rfl g13 #[.int .u64 0, .int .u64 0, .int .u64 0, .slice none 0 0, .slice none 0 0] rfl rfl 27 #[.int .u64 0, .int .u64 0, .int .u64 0, .slice none 0 0, .slice none 0 0] BK_g13.out (by kernel_rfl) rfl (by simp [Value.oneCell']) ?_))
    obtain ⟨w9, hw9⟩ : ∃ w9, w8.setRow g13 #[.int .u64 0, .int .u64 0, .int .u64 0, .slice none 0 0, .slice none 0 0] = w9 := ⟨_, rfl⟩
    have HE9 := Aside0.mk (HE7.out.met (show Below w7.heap.size w7 w9 by rw [← hw9]; exact below_setRow HB8.out (Nat.le_of_eq HG13.out.symm) _))
    rw [hw9]
    clear hw9 HE5 HE6 HE7 HB8 HG13 BK_g13
    have a1_ : ¬ ((24 : Int) = 0) := by decide
    have a2_ : wrap64 (at_.tmod 24 + 24) = at_.tmod 24 + 24 := by unfold wrap64; have := tmod_rg (x := at_) (y := 24) (by omega); omega
    go_upto_region 13 with (fail)
    clear a1_ a2_
    obtain ⟨i, hi, hin⟩ : ∃ i : Nat, (at_.tmod 24 + 24).tmod 24 = (i : Int) ∧ i < 24 := by
      have h1 := tmod_rg (x := at_) (y := 24) (by omega)
      have h2 := tmod_rg (x := at_.tmod 24 + 24) (y := 24) (by omega)
      have h3 := Int.tmod_nonneg (24 : Int) (a := at_.tmod 24 + 24) (by omega)
      exact ⟨((at_.tmod 24 + 24).tmod 24).toNat, by omega, by omega⟩
    (try simp only [hi])
    have HI := Aside0.mk hin
    clear hi
    have i1_ : (i : Int) < (n : Int) := by have := HN2.out; omega
    have i2_ : (0 : Int) ≤ (i : Int) := by omega
    have i3_ : i < n := by omega
    have hcell : w9.cell? ⟨g, i, none⟩ = some (.int .u8 (xs.getD i 0)) := HE9.out.2.1.cell i (by rw [HN.out]; exact i3_)
    have hfrz := HE9.out.2.1.frozen i
    go_upto_region 14 with (fail)
    clear hcell hfrz i1_ i2_
    have hgi : xs[i]?.getD 0 = xs.getD i 0 := List.getD_eq_getElem?_getD.symm
    rw [hgi, bits_x]
    clear hgi
    obtain ⟨y, hy⟩ : ∃ y, xr (xs.getD i 0) by_ = y := ⟨_, rfl⟩
    have HYR := Aside0.mk (show 0 ≤ y ∧ y < 256 by rw [← hy]; exact xr_rg _ _)
    have HY := Aside0.mk (show y ≠ h24.getD i 0 by
      rw [← hy, ← HXS.out]
      have := xr_ne (x := h24.getD i 0) (y := by_) (by
        have hm : h24.getD i 0 ∈ h24 := by
          rw [List.getD_eq_getElem?_getD, List.getElem?_eq_getElem (show i < h24.length from HI.out)]
          exact List.getElem_mem _
        revert hm
        generalize h24.getD i 0 = z
        intro hm
        have : ∀ z ∈ h24, 0 ≤ z ∧ z < 256 := by decide
        exact this z hm) hby
      rw [show objP a0 64 (64 + 56 * (S.length : Int)) S C [] = ob a0 S C from rfl, get_24 a0 S C i HI.out]
      exact this)
    rw [hy]
    clear hy
    obtain ⟨w10, hw10⟩ : ∃ w10, w9.setCell ⟨g, i, none⟩ (.int .u8 y) = w10 := ⟨_, rfl⟩
    have HE10 := Aside0.mk (show ErT w g10 g cap (xs.set i y) #[.int .u64 (readP (xs.take (n - q))).1, .int .u64 (readP (xs.take (n - q))).2.1, .int .u64 (readP (xs.take (n - q))).2.2.1, .slice A5 (readP (xs.take (n - q))).2.2.2.1.length c5, .slice A6 (readP (xs.take (n - q))).2.2.2.2.1.length c6] w10 by rw [← hw10]; exact HE9.out.set HT.out i y)
    rw [hw10]
    clear hw10 HE9
    have HBS := Aside0.mk (set_BB HBB.out i HYR.out)
    have HRO := Aside0.mk (show ∃ q0 q1 q2 Q3 Q4, readP (xs.set i y) = (q0, q1, q2, Q3, Q4, otherE i) by
      rw [← HXS.out]
      exact read_other a0 S C HG.out.1 HG.out.2.1 HG.out.2.2 h3 h4 i HI.out y HY.out)
    have HRC := Aside0.mk (read_cut a0 S C HG.out.1 HG.out.2.1 HG.out.2.2 h3 h4 (n - q) (by show n - q ≤ (objP a0 64 (64 + 56 * (S.length : Int)) S C []).length; rw [HXS.out, HN.out]; omega))
    have HRD := Aside0.mk (show readP (xs.take (n - q)) = if cutE n (n - q) = 0 then (a0, 64, 64 + 56 * (S.length : Int), S, C, 0) else (0, 0, 0, [], [], cutE n (n - q)) by
      have := HRC.out
      rw [show ob a0 S C = xs from HXS.out, HN.out] at this
      exact this)
    clear HRC i3_ hin
    by_cases hc : cutE n (n - q) = 0
    · have hrd := HRD.out
      rw [if_pos hc] at hrd
      simp only [hrd, hc] at HE10 ⊢
      clear hrd HRD hc
      have hcI := HI.out
      have hcases : i < 4 ∨ (7 ≤ i ∧ i < 16) ∨ (4 ≤ i ∧ i < 7) ∨ 16 ≤ i := by omega
      clear hcI
      rcases hcases with k | ⟨k1, k2⟩ | ⟨k1, k2⟩ | k
      · have HRE := Aside0.mk (show ∃ q0 q1 q2 Q3 Q4, readP (xs.set i y) = (q0, q1, q2, Q3, Q4, 31) by
          have := HRO.out
          unfold otherE at this
          rw [if_pos k] at this
          exact this)
        have e0_ : decide ((i : Int) < 4) = true := decide_eq_true (by omega)
        have f0_ : ((i : Int) < 4) := by omega
        have e1_ : decide (7 ≤ (i : Int)) = false := decide_eq_false (by omega)
        have f1_ : ¬ (7 ≤ (i : Int)) := by omega
        clear HRO k
        go_upto_region 15 with (first | (go_at_call 10; refine (read_all w.heap.size g cap n (xs.set i y) 31 _ HE10.out.2.1 (by rw [List.length_set]; exact HN.out) HBS.out HE10.out.2.2.1 HRE.out).mono ?_; rintro e w11 ⟨q0, q1, q2, A7, n7, c7, A8_, n8, c8_, rfl, hb⟩; have HE11 := Aside0.mk (HE10.out.met hb); clear hb) | ((with_reducible refine gate_dst (N := 15) rfl ?_); refine box_event ?hg (N := 15) ?hd (cs := #[.int .u64 0, .int .u64 0, .int .u64 0, .slice none 0 0, .slice none 0 0]) (t := 27) ?hr ?_; (case hd => rfl); (case hg => rfl); (case hr => first | (go_simp; done) | (go_simp; rfl)); intro g15 hg w12 hbox hb; have BK_g15 := Aside0.mk hbox; have HE12 := Aside0.mk (HE11.out.met hb); have HB12 := Aside0.mk hb; have HG15 := Aside0.mk hg; clear hg hbox hb) | (with_reducible refine wpList_store_row rfl 27 (.tmp 15) (.tmp 88) rfl g15 #[.int .u64 q0, .int .u64 q1, .int .u64 q2, .slice A7 n7 c7, .slice A8_ n8 c8_] rfl rfl 27 #[.int .u64 0, .int .u64 0, .int .u64 0, .slice none 0 0, .slice none 0 0] BK_g15.out (by kernel_rfl) rfl (by simp [Value.oneCell']) ?_))
        obtain ⟨w13, hw13⟩ : ∃ w13, w12.setRow g15 #[.int .u64 q0, .int .u64 q1, .int .u64 q2, .slice A7 n7 c7, .slice A8_ n8 c8_] = w13 := ⟨_, rfl⟩
        have HE13 := Aside0.mk (HE11.out.met (show Below w11.heap.size w11 w13 by rw [← hw13]; exact below_setRow HB12.out (Nat.le_of_eq HG15.out.symm) _))
        rw [hw13]
        clear hw13 HE10 HE11 HE12 HB12 HG15 BK_g15
        go_wp2_with (first | (go_at_call 9; refine (sundiallaw03_wakes.calls true _ HE13.out.2.2.1 wakes_f).mono ?_; rintro e w14 ⟨rfl, hb⟩; have HE14 := Aside0.mk (HE13.out.met hb); clear hb))
        go_ret
        exact ⟨rfl, HE14.out.2.2.2⟩
      · have HRE := Aside0.mk (show ∃ q0 q1 q2 Q3 Q4, readP (xs.set i y) = (q0, q1, q2, Q3, Q4, 0) by
          have := HRO.out
          unfold otherE at this
          rw [if_neg (show ¬ i < 4 by omega), if_pos (show 7 ≤ i ∧ i < 16 from ⟨k1, k2⟩)] at this
          exact this)
        have e0_ : decide ((i : Int) < 4) = false := decide_eq_false (by omega)
        have f0_ : ¬ ((i : Int) < 4) := by omega
        have e1_ : decide (7 ≤ (i : Int)) = true := decide_eq_true (by omega)
        have f1_ : (7 ≤ (i : Int)) := by omega
        have e2_ : decide ((i : Int) < 16) = true := decide_eq_true (by omega)
        have f2_ : ((i : Int) < 16) := by omega
        clear HRO
        go_upto_region 15 with (first | (go_at_call 10; refine (read_all w.heap.size g cap n (xs.set i y) 0 _ HE10.out.2.1 (by rw [List.length_set]; exact HN.out) HBS.out HE10.out.2.2.1 HRE.out).mono ?_; rintro e w11 ⟨q0, q1, q2, A7, n7, c7, A8_, n8, c8_, rfl, hb⟩; have HE11 := Aside0.mk (HE10.out.met hb); clear hb) | ((with_reducible refine gate_dst (N := 15) rfl ?_); refine box_event ?hg (N := 15) ?hd (cs := #[.int .u64 0, .int .u64 0, .int .u64 0, .slice none 0 0, .slice none 0 0]) (t := 27) ?hr ?_; (case hd => rfl); (case hg => rfl); (case hr => first | (go_simp; done) | (go_simp; rfl)); intro g15 hg w12 hbox hb; have BK_g15 := Aside0.mk hbox; have HE12 := Aside0.mk (HE11.out.met hb); have HB12 := Aside0.mk hb; have HG15 := Aside0.mk hg; clear hg hbox hb) | (with_reducible refine wpList_store_row rfl 27 (.tmp 15) (.tmp 88) rfl g15 #[.int .u64 q0, .int .u64 q1, .int .u64 q2, .slice A7 n7 c7, .slice A8_ n8 c8_] rfl rfl 27 #[.int .u64 0, .int .u64 0, .int .u64 0, .slice none 0 0, .slice none 0 0] BK_g15.out (by kernel_rfl) rfl (by simp [Value.oneCell']) ?_))
        obtain ⟨w13, hw13⟩ : ∃ w13, w12.setRow g15 #[.int .u64 q0, .int .u64 q1, .int .u64 q2, .slice A7 n7 c7, .slice A8_ n8 c8_] = w13 := ⟨_, rfl⟩
        have HE13 := Aside0.mk (HE11.out.met (show Below w11.heap.size w11 w13 by rw [← hw13]; exact below_setRow HB12.out (Nat.le_of_eq HG15.out.symm) _))
        rw [hw13]
        clear hw13 HE10 HE11 HE12 HB12 HG15 BK_g15
        go_wp2_with (first | (go_at_call 9; refine (sundiallaw03_wakes.calls true _ HE13.out.2.2.1 wakes_f).mono ?_; rintro e w14 ⟨rfl, hb⟩; have HE14 := Aside0.mk (HE13.out.met hb); clear hb))
        go_ret
        exact ⟨rfl, HE14.out.2.2.2⟩
      · have HRE := Aside0.mk (show ∃ q0 q1 q2 Q3 Q4, readP (xs.set i y) = (q0, q1, q2, Q3, Q4, 32) by
          have := HRO.out
          unfold otherE at this
          rw [if_neg (show ¬ i < 4 by omega), if_neg (show ¬ (7 ≤ i ∧ i < 16) by omega)] at this
          exact this)
        have e0_ : decide ((i : Int) < 4) = false := decide_eq_false (by omega)
        have f0_ : ¬ ((i : Int) < 4) := by omega
        have e1_ : decide (7 ≤ (i : Int)) = false := decide_eq_false (by omega)
        have f1_ : ¬ (7 ≤ (i : Int)) := by omega
        clear HRO
        go_upto_region 15 with (first | (go_at_call 10; refine (read_all w.heap.size g cap n (xs.set i y) 32 _ HE10.out.2.1 (by rw [List.length_set]; exact HN.out) HBS.out HE10.out.2.2.1 HRE.out).mono ?_; rintro e w11 ⟨q0, q1, q2, A7, n7, c7, A8_, n8, c8_, rfl, hb⟩; have HE11 := Aside0.mk (HE10.out.met hb); clear hb) | ((with_reducible refine gate_dst (N := 15) rfl ?_); refine box_event ?hg (N := 15) ?hd (cs := #[.int .u64 0, .int .u64 0, .int .u64 0, .slice none 0 0, .slice none 0 0]) (t := 27) ?hr ?_; (case hd => rfl); (case hg => rfl); (case hr => first | (go_simp; done) | (go_simp; rfl)); intro g15 hg w12 hbox hb; have BK_g15 := Aside0.mk hbox; have HE12 := Aside0.mk (HE11.out.met hb); have HB12 := Aside0.mk hb; have HG15 := Aside0.mk hg; clear hg hbox hb) | (with_reducible refine wpList_store_row rfl 27 (.tmp 15) (.tmp 88) rfl g15 #[.int .u64 q0, .int .u64 q1, .int .u64 q2, .slice A7 n7 c7, .slice A8_ n8 c8_] rfl rfl 27 #[.int .u64 0, .int .u64 0, .int .u64 0, .slice none 0 0, .slice none 0 0] BK_g15.out (by kernel_rfl) rfl (by simp [Value.oneCell']) ?_))
        obtain ⟨w13, hw13⟩ : ∃ w13, w12.setRow g15 #[.int .u64 q0, .int .u64 q1, .int .u64 q2, .slice A7 n7 c7, .slice A8_ n8 c8_] = w13 := ⟨_, rfl⟩
        have HE13 := Aside0.mk (HE11.out.met (show Below w11.heap.size w11 w13 by rw [← hw13]; exact below_setRow HB12.out (Nat.le_of_eq HG15.out.symm) _))
        rw [hw13]
        clear hw13 HE10 HE11 HE12 HB12 HG15 BK_g15
        go_wp2_with (first | (go_at_call 9; refine (sundiallaw03_wakes.calls true _ HE13.out.2.2.1 wakes_f).mono ?_; rintro e w14 ⟨rfl, hb⟩; have HE14 := Aside0.mk (HE13.out.met hb); clear hb))
        go_ret
        exact ⟨rfl, HE14.out.2.2.2⟩
      · have HRE := Aside0.mk (show ∃ q0 q1 q2 Q3 Q4, readP (xs.set i y) = (q0, q1, q2, Q3, Q4, 32) by
          have := HRO.out
          unfold otherE at this
          rw [if_neg (show ¬ i < 4 by omega), if_neg (show ¬ (7 ≤ i ∧ i < 16) by omega)] at this
          exact this)
        have e0_ : decide ((i : Int) < 4) = false := decide_eq_false (by omega)
        have f0_ : ¬ ((i : Int) < 4) := by omega
        have e1_ : decide (7 ≤ (i : Int)) = true := decide_eq_true (by omega)
        have f1_ : (7 ≤ (i : Int)) := by omega
        have e2_ : decide ((i : Int) < 16) = false := decide_eq_false (by omega)
        have f2_ : ¬ ((i : Int) < 16) := by omega
        clear HRO
        go_upto_region 15 with (first | (go_at_call 10; refine (read_all w.heap.size g cap n (xs.set i y) 32 _ HE10.out.2.1 (by rw [List.length_set]; exact HN.out) HBS.out HE10.out.2.2.1 HRE.out).mono ?_; rintro e w11 ⟨q0, q1, q2, A7, n7, c7, A8_, n8, c8_, rfl, hb⟩; have HE11 := Aside0.mk (HE10.out.met hb); clear hb) | ((with_reducible refine gate_dst (N := 15) rfl ?_); refine box_event ?hg (N := 15) ?hd (cs := #[.int .u64 0, .int .u64 0, .int .u64 0, .slice none 0 0, .slice none 0 0]) (t := 27) ?hr ?_; (case hd => rfl); (case hg => rfl); (case hr => first | (go_simp; done) | (go_simp; rfl)); intro g15 hg w12 hbox hb; have BK_g15 := Aside0.mk hbox; have HE12 := Aside0.mk (HE11.out.met hb); have HB12 := Aside0.mk hb; have HG15 := Aside0.mk hg; clear hg hbox hb) | (with_reducible refine wpList_store_row rfl 27 (.tmp 15) (.tmp 88) rfl g15 #[.int .u64 q0, .int .u64 q1, .int .u64 q2, .slice A7 n7 c7, .slice A8_ n8 c8_] rfl rfl 27 #[.int .u64 0, .int .u64 0, .int .u64 0, .slice none 0 0, .slice none 0 0] BK_g15.out (by kernel_rfl) rfl (by simp [Value.oneCell']) ?_))
        obtain ⟨w13, hw13⟩ : ∃ w13, w12.setRow g15 #[.int .u64 q0, .int .u64 q1, .int .u64 q2, .slice A7 n7 c7, .slice A8_ n8 c8_] = w13 := ⟨_, rfl⟩
        have HE13 := Aside0.mk (HE11.out.met (show Below w11.heap.size w11 w13 by rw [← hw13]; exact below_setRow HB12.out (Nat.le_of_eq HG15.out.symm) _))
        rw [hw13]
        clear hw13 HE10 HE11 HE12 HB12 HG15 BK_g15
        go_wp2_with (first | (go_at_call 9; refine (sundiallaw03_wakes.calls true _ HE13.out.2.2.1 wakes_f).mono ?_; rintro e w14 ⟨rfl, hb⟩; have HE14 := Aside0.mk (HE13.out.met hb); clear hb))
        go_ret
        exact ⟨rfl, HE14.out.2.2.2⟩
    · have hrd := HRD.out
      rw [if_neg hc] at hrd
      simp only [hrd] at HE10 ⊢
      clear hrd HRD
      obtain ⟨K, hK⟩ : ∃ K, cutE n (n - q) = K := ⟨_, rfl⟩
      rw [hK] at hc ⊢
      clear hK
      have hc0 : (K == 0) = false := by simpa using hc
      have hcI := HI.out
      have hcases : i < 4 ∨ (7 ≤ i ∧ i < 16) ∨ (4 ≤ i ∧ i < 7) ∨ 16 ≤ i := by omega
      clear hcI
      rcases hcases with k | ⟨k1, k2⟩ | ⟨k1, k2⟩ | k
      · have HRE := Aside0.mk (show ∃ q0 q1 q2 Q3 Q4, readP (xs.set i y) = (q0, q1, q2, Q3, Q4, 31) by
          have := HRO.out
          unfold otherE at this
          rw [if_pos k] at this
          exact this)
        have e0_ : decide ((i : Int) < 4) = true := decide_eq_true (by omega)
        have f0_ : ((i : Int) < 4) := by omega
        have e1_ : decide (7 ≤ (i : Int)) = false := decide_eq_false (by omega)
        have f1_ : ¬ (7 ≤ (i : Int)) := by omega
        clear HRO k
        go_upto_region 15 with (first | (go_at_call 10; refine (read_all w.heap.size g cap n (xs.set i y) 31 _ HE10.out.2.1 (by rw [List.length_set]; exact HN.out) HBS.out HE10.out.2.2.1 HRE.out).mono ?_; rintro e w11 ⟨q0, q1, q2, A7, n7, c7, A8_, n8, c8_, rfl, hb⟩; have HE11 := Aside0.mk (HE10.out.met hb); clear hb) | ((with_reducible refine gate_dst (N := 15) rfl ?_); refine box_event ?hg (N := 15) ?hd (cs := #[.int .u64 0, .int .u64 0, .int .u64 0, .slice none 0 0, .slice none 0 0]) (t := 27) ?hr ?_; (case hd => rfl); (case hg => rfl); (case hr => first | (go_simp; done) | (go_simp; rfl)); intro g15 hg w12 hbox hb; have BK_g15 := Aside0.mk hbox; have HE12 := Aside0.mk (HE11.out.met hb); have HB12 := Aside0.mk hb; have HG15 := Aside0.mk hg; clear hg hbox hb) | (with_reducible refine wpList_store_row rfl 27 (.tmp 15) (.tmp 88) rfl g15 #[.int .u64 q0, .int .u64 q1, .int .u64 q2, .slice A7 n7 c7, .slice A8_ n8 c8_] rfl rfl 27 #[.int .u64 0, .int .u64 0, .int .u64 0, .slice none 0 0, .slice none 0 0] BK_g15.out (by kernel_rfl) rfl (by simp [Value.oneCell']) ?_))
        obtain ⟨w13, hw13⟩ : ∃ w13, w12.setRow g15 #[.int .u64 q0, .int .u64 q1, .int .u64 q2, .slice A7 n7 c7, .slice A8_ n8 c8_] = w13 := ⟨_, rfl⟩
        have HE13 := Aside0.mk (HE11.out.met (show Below w11.heap.size w11 w13 by rw [← hw13]; exact below_setRow HB12.out (Nat.le_of_eq HG15.out.symm) _))
        rw [hw13]
        clear hw13 HE10 HE11 HE12 HB12 HG15 BK_g15
        have hcz0 : w13.cell? ⟨g10, 0, none⟩ = some (.int .u64 0) := (bC_ HE13.out.1 0).trans rfl
        have hcz1 : w13.cell? ⟨g10, 1, none⟩ = some (.int .u64 0) := (bC_ HE13.out.1 1).trans rfl
        have hcz2 : w13.cell? ⟨g10, 2, none⟩ = some (.int .u64 0) := (bC_ HE13.out.1 2).trans rfl
        have hcz3 : w13.cell? ⟨g10, 3, none⟩ = some (.slice A5 0 c5) := (bC_ HE13.out.1 3).trans rfl
        have hcz4 : w13.cell? ⟨g10, 4, none⟩ = some (.slice A6 0 c6) := (bC_ HE13.out.1 4).trans rfl
        go_wp2_with (first | (go_at_call 12; refine (sundialref03_Same.calls 200 0 0 0 A5 c5 [] A6 c6 [] 0 0 0 none 0 [] none 0 [] true _ (C30_z _ _) (Nat.zero_le _) (C32_z _ _) (Nat.zero_le _) (C30_z _ _) (Nat.zero_le _) (C32_z _ _) (Nat.zero_le _) (rsame_refl 0 0 0 [] [] (by decide) (by decide) 200 (by decide))).mono ?_; rintro e w15 ⟨rfl, hb⟩; have HE15 := Aside0.mk (HE13.out.met hb); clear hb) | (go_at_call 9; refine (sundiallaw03_wakes.calls true _ HE15.out.2.2.1 wakes_f).mono ?_; rintro e w14 ⟨rfl, hb⟩; have HE14 := Aside0.mk (HE15.out.met hb); clear hb))
        go_ret
        exact ⟨rfl, HE14.out.2.2.2⟩
      · have HRE := Aside0.mk (show ∃ q0 q1 q2 Q3 Q4, readP (xs.set i y) = (q0, q1, q2, Q3, Q4, 0) by
          have := HRO.out
          unfold otherE at this
          rw [if_neg (show ¬ i < 4 by omega), if_pos (show 7 ≤ i ∧ i < 16 from ⟨k1, k2⟩)] at this
          exact this)
        have e0_ : decide ((i : Int) < 4) = false := decide_eq_false (by omega)
        have f0_ : ¬ ((i : Int) < 4) := by omega
        have e1_ : decide (7 ≤ (i : Int)) = true := decide_eq_true (by omega)
        have f1_ : (7 ≤ (i : Int)) := by omega
        have e2_ : decide ((i : Int) < 16) = true := decide_eq_true (by omega)
        have f2_ : ((i : Int) < 16) := by omega
        clear HRO
        go_upto_region 15 with (first | (go_at_call 10; refine (read_all w.heap.size g cap n (xs.set i y) 0 _ HE10.out.2.1 (by rw [List.length_set]; exact HN.out) HBS.out HE10.out.2.2.1 HRE.out).mono ?_; rintro e w11 ⟨q0, q1, q2, A7, n7, c7, A8_, n8, c8_, rfl, hb⟩; have HE11 := Aside0.mk (HE10.out.met hb); clear hb) | ((with_reducible refine gate_dst (N := 15) rfl ?_); refine box_event ?hg (N := 15) ?hd (cs := #[.int .u64 0, .int .u64 0, .int .u64 0, .slice none 0 0, .slice none 0 0]) (t := 27) ?hr ?_; (case hd => rfl); (case hg => rfl); (case hr => first | (go_simp; done) | (go_simp; rfl)); intro g15 hg w12 hbox hb; have BK_g15 := Aside0.mk hbox; have HE12 := Aside0.mk (HE11.out.met hb); have HB12 := Aside0.mk hb; have HG15 := Aside0.mk hg; clear hg hbox hb) | (with_reducible refine wpList_store_row rfl 27 (.tmp 15) (.tmp 88) rfl g15 #[.int .u64 q0, .int .u64 q1, .int .u64 q2, .slice A7 n7 c7, .slice A8_ n8 c8_] rfl rfl 27 #[.int .u64 0, .int .u64 0, .int .u64 0, .slice none 0 0, .slice none 0 0] BK_g15.out (by kernel_rfl) rfl (by simp [Value.oneCell']) ?_))
        obtain ⟨w13, hw13⟩ : ∃ w13, w12.setRow g15 #[.int .u64 q0, .int .u64 q1, .int .u64 q2, .slice A7 n7 c7, .slice A8_ n8 c8_] = w13 := ⟨_, rfl⟩
        have HE13 := Aside0.mk (HE11.out.met (show Below w11.heap.size w11 w13 by rw [← hw13]; exact below_setRow HB12.out (Nat.le_of_eq HG15.out.symm) _))
        rw [hw13]
        clear hw13 HE10 HE11 HE12 HB12 HG15 BK_g15
        have hcz0 : w13.cell? ⟨g10, 0, none⟩ = some (.int .u64 0) := (bC_ HE13.out.1 0).trans rfl
        have hcz1 : w13.cell? ⟨g10, 1, none⟩ = some (.int .u64 0) := (bC_ HE13.out.1 1).trans rfl
        have hcz2 : w13.cell? ⟨g10, 2, none⟩ = some (.int .u64 0) := (bC_ HE13.out.1 2).trans rfl
        have hcz3 : w13.cell? ⟨g10, 3, none⟩ = some (.slice A5 0 c5) := (bC_ HE13.out.1 3).trans rfl
        have hcz4 : w13.cell? ⟨g10, 4, none⟩ = some (.slice A6 0 c6) := (bC_ HE13.out.1 4).trans rfl
        go_wp2_with (first | (go_at_call 12; refine (sundialref03_Same.calls 200 0 0 0 A5 c5 [] A6 c6 [] 0 0 0 none 0 [] none 0 [] true _ (C30_z _ _) (Nat.zero_le _) (C32_z _ _) (Nat.zero_le _) (C30_z _ _) (Nat.zero_le _) (C32_z _ _) (Nat.zero_le _) (rsame_refl 0 0 0 [] [] (by decide) (by decide) 200 (by decide))).mono ?_; rintro e w15 ⟨rfl, hb⟩; have HE15 := Aside0.mk (HE13.out.met hb); clear hb) | (go_at_call 9; refine (sundiallaw03_wakes.calls true _ HE15.out.2.2.1 wakes_f).mono ?_; rintro e w14 ⟨rfl, hb⟩; have HE14 := Aside0.mk (HE15.out.met hb); clear hb))
        go_ret
        exact ⟨rfl, HE14.out.2.2.2⟩
      · have HRE := Aside0.mk (show ∃ q0 q1 q2 Q3 Q4, readP (xs.set i y) = (q0, q1, q2, Q3, Q4, 32) by
          have := HRO.out
          unfold otherE at this
          rw [if_neg (show ¬ i < 4 by omega), if_neg (show ¬ (7 ≤ i ∧ i < 16) by omega)] at this
          exact this)
        have e0_ : decide ((i : Int) < 4) = false := decide_eq_false (by omega)
        have f0_ : ¬ ((i : Int) < 4) := by omega
        have e1_ : decide (7 ≤ (i : Int)) = false := decide_eq_false (by omega)
        have f1_ : ¬ (7 ≤ (i : Int)) := by omega
        clear HRO
        go_upto_region 15 with (first | (go_at_call 10; refine (read_all w.heap.size g cap n (xs.set i y) 32 _ HE10.out.2.1 (by rw [List.length_set]; exact HN.out) HBS.out HE10.out.2.2.1 HRE.out).mono ?_; rintro e w11 ⟨q0, q1, q2, A7, n7, c7, A8_, n8, c8_, rfl, hb⟩; have HE11 := Aside0.mk (HE10.out.met hb); clear hb) | ((with_reducible refine gate_dst (N := 15) rfl ?_); refine box_event ?hg (N := 15) ?hd (cs := #[.int .u64 0, .int .u64 0, .int .u64 0, .slice none 0 0, .slice none 0 0]) (t := 27) ?hr ?_; (case hd => rfl); (case hg => rfl); (case hr => first | (go_simp; done) | (go_simp; rfl)); intro g15 hg w12 hbox hb; have BK_g15 := Aside0.mk hbox; have HE12 := Aside0.mk (HE11.out.met hb); have HB12 := Aside0.mk hb; have HG15 := Aside0.mk hg; clear hg hbox hb) | (with_reducible refine wpList_store_row rfl 27 (.tmp 15) (.tmp 88) rfl g15 #[.int .u64 q0, .int .u64 q1, .int .u64 q2, .slice A7 n7 c7, .slice A8_ n8 c8_] rfl rfl 27 #[.int .u64 0, .int .u64 0, .int .u64 0, .slice none 0 0, .slice none 0 0] BK_g15.out (by kernel_rfl) rfl (by simp [Value.oneCell']) ?_))
        obtain ⟨w13, hw13⟩ : ∃ w13, w12.setRow g15 #[.int .u64 q0, .int .u64 q1, .int .u64 q2, .slice A7 n7 c7, .slice A8_ n8 c8_] = w13 := ⟨_, rfl⟩
        have HE13 := Aside0.mk (HE11.out.met (show Below w11.heap.size w11 w13 by rw [← hw13]; exact below_setRow HB12.out (Nat.le_of_eq HG15.out.symm) _))
        rw [hw13]
        clear hw13 HE10 HE11 HE12 HB12 HG15 BK_g15
        have hcz0 : w13.cell? ⟨g10, 0, none⟩ = some (.int .u64 0) := (bC_ HE13.out.1 0).trans rfl
        have hcz1 : w13.cell? ⟨g10, 1, none⟩ = some (.int .u64 0) := (bC_ HE13.out.1 1).trans rfl
        have hcz2 : w13.cell? ⟨g10, 2, none⟩ = some (.int .u64 0) := (bC_ HE13.out.1 2).trans rfl
        have hcz3 : w13.cell? ⟨g10, 3, none⟩ = some (.slice A5 0 c5) := (bC_ HE13.out.1 3).trans rfl
        have hcz4 : w13.cell? ⟨g10, 4, none⟩ = some (.slice A6 0 c6) := (bC_ HE13.out.1 4).trans rfl
        go_wp2_with (first | (go_at_call 12; refine (sundialref03_Same.calls 200 0 0 0 A5 c5 [] A6 c6 [] 0 0 0 none 0 [] none 0 [] true _ (C30_z _ _) (Nat.zero_le _) (C32_z _ _) (Nat.zero_le _) (C30_z _ _) (Nat.zero_le _) (C32_z _ _) (Nat.zero_le _) (rsame_refl 0 0 0 [] [] (by decide) (by decide) 200 (by decide))).mono ?_; rintro e w15 ⟨rfl, hb⟩; have HE15 := Aside0.mk (HE13.out.met hb); clear hb) | (go_at_call 9; refine (sundiallaw03_wakes.calls true _ HE15.out.2.2.1 wakes_f).mono ?_; rintro e w14 ⟨rfl, hb⟩; have HE14 := Aside0.mk (HE15.out.met hb); clear hb))
        go_ret
        exact ⟨rfl, HE14.out.2.2.2⟩
      · have HRE := Aside0.mk (show ∃ q0 q1 q2 Q3 Q4, readP (xs.set i y) = (q0, q1, q2, Q3, Q4, 32) by
          have := HRO.out
          unfold otherE at this
          rw [if_neg (show ¬ i < 4 by omega), if_neg (show ¬ (7 ≤ i ∧ i < 16) by omega)] at this
          exact this)
        have e0_ : decide ((i : Int) < 4) = false := decide_eq_false (by omega)
        have f0_ : ¬ ((i : Int) < 4) := by omega
        have e1_ : decide (7 ≤ (i : Int)) = true := decide_eq_true (by omega)
        have f1_ : (7 ≤ (i : Int)) := by omega
        have e2_ : decide ((i : Int) < 16) = false := decide_eq_false (by omega)
        have f2_ : ¬ ((i : Int) < 16) := by omega
        clear HRO
        go_upto_region 15 with (first | (go_at_call 10; refine (read_all w.heap.size g cap n (xs.set i y) 32 _ HE10.out.2.1 (by rw [List.length_set]; exact HN.out) HBS.out HE10.out.2.2.1 HRE.out).mono ?_; rintro e w11 ⟨q0, q1, q2, A7, n7, c7, A8_, n8, c8_, rfl, hb⟩; have HE11 := Aside0.mk (HE10.out.met hb); clear hb) | ((with_reducible refine gate_dst (N := 15) rfl ?_); refine box_event ?hg (N := 15) ?hd (cs := #[.int .u64 0, .int .u64 0, .int .u64 0, .slice none 0 0, .slice none 0 0]) (t := 27) ?hr ?_; (case hd => rfl); (case hg => rfl); (case hr => first | (go_simp; done) | (go_simp; rfl)); intro g15 hg w12 hbox hb; have BK_g15 := Aside0.mk hbox; have HE12 := Aside0.mk (HE11.out.met hb); have HB12 := Aside0.mk hb; have HG15 := Aside0.mk hg; clear hg hbox hb) | (with_reducible refine wpList_store_row rfl 27 (.tmp 15) (.tmp 88) rfl g15 #[.int .u64 q0, .int .u64 q1, .int .u64 q2, .slice A7 n7 c7, .slice A8_ n8 c8_] rfl rfl 27 #[.int .u64 0, .int .u64 0, .int .u64 0, .slice none 0 0, .slice none 0 0] BK_g15.out (by kernel_rfl) rfl (by simp [Value.oneCell']) ?_))
        obtain ⟨w13, hw13⟩ : ∃ w13, w12.setRow g15 #[.int .u64 q0, .int .u64 q1, .int .u64 q2, .slice A7 n7 c7, .slice A8_ n8 c8_] = w13 := ⟨_, rfl⟩
        have HE13 := Aside0.mk (HE11.out.met (show Below w11.heap.size w11 w13 by rw [← hw13]; exact below_setRow HB12.out (Nat.le_of_eq HG15.out.symm) _))
        rw [hw13]
        clear hw13 HE10 HE11 HE12 HB12 HG15 BK_g15
        have hcz0 : w13.cell? ⟨g10, 0, none⟩ = some (.int .u64 0) := (bC_ HE13.out.1 0).trans rfl
        have hcz1 : w13.cell? ⟨g10, 1, none⟩ = some (.int .u64 0) := (bC_ HE13.out.1 1).trans rfl
        have hcz2 : w13.cell? ⟨g10, 2, none⟩ = some (.int .u64 0) := (bC_ HE13.out.1 2).trans rfl
        have hcz3 : w13.cell? ⟨g10, 3, none⟩ = some (.slice A5 0 c5) := (bC_ HE13.out.1 3).trans rfl
        have hcz4 : w13.cell? ⟨g10, 4, none⟩ = some (.slice A6 0 c6) := (bC_ HE13.out.1 4).trans rfl
        go_wp2_with (first | (go_at_call 12; refine (sundialref03_Same.calls 200 0 0 0 A5 c5 [] A6 c6 [] 0 0 0 none 0 [] none 0 [] true _ (C30_z _ _) (Nat.zero_le _) (C32_z _ _) (Nat.zero_le _) (C30_z _ _) (Nat.zero_le _) (C32_z _ _) (Nat.zero_le _) (rsame_refl 0 0 0 [] [] (by decide) (by decide) 200 (by decide))).mono ?_; rintro e w15 ⟨rfl, hb⟩; have HE15 := Aside0.mk (HE13.out.met hb); clear hb) | (go_at_call 9; refine (sundiallaw03_wakes.calls true _ HE15.out.2.2.1 wakes_f).mono ?_; rintro e w14 ⟨rfl, hb⟩; have HE14 := Aside0.mk (HE15.out.met hb); clear hb))
        go_ret
        exact ⟨rfl, HE14.out.2.2.2⟩
end Go.Proofs.YtopldeeojehklaaDoor.B
namespace Go.Proofs.YtopldeeojehklaaDoor.R
open Go.RowKit Go.Proofs.YtopldeeojehklaaDoorW.PrintWords Go.Proofs.YtopldeeojehklaaDoorW.PrintLast Go.Proofs.YtopldeeojehklaaDoorW.PrintMore Go.Proofs.YtopldeeojehklaaDoor.B Go.RF
set_option linter.unusedVariables false
theorem Pure.HeaderErrors {w : World} (cs : Array Value) (a1 a2 a3 : Int) (hg : HdrIn w cs) (h1 : (Lit.int .i64 a1).wf = true) (h2 : (Lit.int .u8 a2).wf = true) (h3 : (Lit.int .i64 a3).wf = true) : ∃ k : Nat, HdrIn w cs ∧ 0 ≤ a2 ∧ a2 < 256 := by
  have := bb_wf (l := [a2]) (fun y hy => by rw [List.mem_singleton] at hy; rw [hy]; exact h2) a2 (by simp)
  exact ⟨0, hg, this⟩
theorem sundiallaw03_HeaderErrors.calls (k : Nat) (cs : Array Value) (a1 a2 a3 : Int) (r : Bool) (w : World) (hT : Tab w) (h : HdrIn w cs ∧ 0 ≤ a2 ∧ a2 < 256) :
    Calls Tryd.prog 5 #[.agg cs, .int .i64 a1, .int .u8 a2, .int .i64 a3] w fun e w' => e = .returned (.bool true) ∧ Below w.heap.size w w' := by
  obtain ⟨⟨b0, b1, b2, A3, c3, S, A4, c4, C, rfl, C3, l3, C4, l4, r0, r1, r2, G3, G4⟩, hb⟩ := h
  by_cases q1 : 16 < S.length
  · exact errors_wakes_a b0 b1 b2 A3 c3 S A4 c4 C a1 a2 a3 w C3 l3 C4 l4 hT q1
  by_cases q2 : 32 < C.length
  · exact errors_wakes_b b0 b1 b2 A3 c3 S A4 c4 C a1 a2 a3 w C3 l3 C4 l4 hT ⟨by omega, q2⟩
  by_cases q3 : a2 = 0
  · exact errors_wakes_c b0 b1 b2 A3 c3 S A4 c4 C a1 a2 a3 w C3 l3 C4 l4 hT ⟨by omega, by omega, q3⟩
  exact errors_main b0 b1 b2 A3 c3 S A4 c4 C a1 a2 a3 w C3 l3 C4 l4 hT ⟨r0, G3, G4⟩ (by omega) (by omega) ⟨by omega, hb.2⟩
end Go.Proofs.YtopldeeojehklaaDoor.R
namespace Go.Proofs.YtopldeeojehklaaDoor.headerErrors
open Go.ChangeShapes Go.WideShapes Go.ChangeAt Go.RowKit
open Go.Proofs.YtopldeeojehklaaDoorW.PrintWords
set_option linter.unusedVariables false
theorem own : ownKnob Tryd.prog.godebug = none := by kernel_rfl
theorem laidOut : laidOutB Tryd.prog = true := by kernel_rfl
set_option maxRecDepth 100000 in
theorem lifted (os : Os) (started : os.Started) (H : Type) (enc : TypeId × Value → H) :
    ReturnsInHanded {} Tryd.checked os 5 .any (fun w args => (Rows.headerErrorsSpec.pre enc Tryd.prog Tryd.f5 [] false w args ∧ laidMetH Tryd.prog Rows.headerErrorsRow.laid w) ∧ sizedMet enc Tryd.prog Tryd.f5 (OpenSpec.ofChange Rows.headerErrorsSpec) false w args) (Rows.headerErrorsSpec.post enc Tryd.prog Tryd.f5 false true false false) := by
  refine returnsInHanded_of_change_and (C := Tryd.checked) (X := fun w _ => laidMetH Tryd.prog Rows.headerErrorsRow.laid w) (fun _ _ _ hh h => h.of_heap hh) own started (by kernel_rfl) Tryd.func5
    (ChangeSpec.witness_shaped (enc := enc) (C := Tryd.checked) (os := os) (X := fun w _ => laidMetH Tryd.prog Rows.headerErrorsRow.laid w) false (World.laidAll Tryd.prog os Rows.headerErrorsRow.laid) #[.agg #[.int .u64 0, .int .u64 0, .int .u64 0, .slice none 0 0, .slice none 0 0], .int .i64 0, .int .u8 0, .int .i64 0] 8 (World.laidAll_os _ _ _)
      (World.shaped_of_ZipB (by kernel_rfl) (by kernel_rfl)) (by kernel_rfl) (by kernel_rfl) (by kernel_rfl)
      (by rw [MakeChecks.laidMetH_plain _ _ _ (by kernel_rfl)]; exact laidMet_laidAll _ (by kernel_rfl) (by kernel_rfl))) ?_
  intro W base args ds gs before hval0 hW hcnd hsz0 hL _
  rw [MakeChecks.laidMetH_plain _ _ _ (by kernel_rfl)] at hL
  have hval : ∀ (j : Nat) t v, Tryd.f5.params[j]? = some t → args[j]? = some v → Value.okWide Tryd.prog W .any base t v := hval0
  have hW' := hW
  obtain ⟨p, q, hA0, hV, rfl, hfz, hnd⟩ := hW
  have hA : DataW.TrodAll enc Tryd.prog W 0 (fun _ => true) true Tryd.f5.params.toList args.toList ds p := hA0
  rw [Tryd.params5] at hA hval
  obtain ⟨v0, vs0, d0, ds0, p0, q0, hargs, rfl, rfl, h0, r0⟩ := trodAll_cons hA
  obtain ⟨v1, vs1, d1, ds1, p1, q1, rfl, rfl, rfl, h1, r1⟩ := trodAll_cons r0
  obtain ⟨v2, vs2, d2, ds2, p2, q2, rfl, rfl, rfl, h2, r2⟩ := trodAll_cons r1
  obtain ⟨v3, vs3, d3, ds3, p3, q3, rfl, rfl, rfl, h3, r3⟩ := trodAll_cons r2
  obtain ⟨rfl, rfl, rfl⟩ := trodAll_nil r3
  obtain rfl : args = #[v0, v1, v2, v3] := by cases args; simp_all
  obtain ⟨rfl, rfl⟩ := trodVars_none hV
  have e0 := okWide_struct Tryd.underlying27 (hval 0 27 v0 rfl rfl)
  have k0 := h0
  have lt0 : ∀ x ∈ p0, x.block < W.heap.size := by obtain ⟨m, hm⟩ := k0; exact DataW.trod_lt m _ _ _ hm
  obtain ⟨cs0, rfl, hg0⟩ := Go.Proofs.YtopldeeojehklaaDoor.R.ag_header e0 h0
  obtain ⟨a1, rfl, rfl, rfl, w1⟩ := open_int Tryd.underlying3 (hval 1 3 v1 rfl rfl) h1
  obtain ⟨a2, rfl, rfl, rfl, w2⟩ := open_int Tryd.underlying5 (hval 2 5 v2 rfl rfl) h2
  obtain ⟨a3, rfl, rfl, rfl, w3⟩ := open_int Tryd.underlying3 (hval 3 3 v3 rfl rfl) h3
  clear hA0 hval0 hsz0
  obtain ⟨k, h⟩ := Go.Proofs.YtopldeeojehklaaDoor.R.Pure.HeaderErrors cs0 a1 a2 a3 hg0 w1 w2 w3
  refine (Go.Proofs.YtopldeeojehklaaDoor.R.sundiallaw03_HeaderErrors.calls k cs0 a1 a2 a3 true W (Go.Proofs.YtopldeeojehklaaDoor.R.laid_of (by first | exact .head _ | exact .tail _ (.head _) | exact .tail _ (.tail _ (.head _)) | exact .tail _ (.tail _ (.tail _ (.head _)))) hL) h).mono ?_
  rintro e W' ⟨rfl, bel⟩
  exact ⟨_, rfl, _, _, _, [], _, [], hW', trodAll_mk1 (shut_bool Tryd.underlying4 _), (trodAll_cons_mk (Below.trod laidOut (by kernel_rfl) (of_decide_eq_true (by kernel_rfl)) k0 bel lt0) (trodAll_cons_mk (shut_int Tryd.underlying3 w1) (trodAll_cons_mk (shut_int Tryd.underlying5 w2) (trodAll_cons_mk (shut_int Tryd.underlying3 w3) trodAll_mk0)))), rfl, bel.frame _, fun h => by cases h⟩
theorem over : Rows.headerErrorsRow.holds Tryd.pinned (OpenSpec.ofChange Rows.headerErrorsSpec) :=
  OpenClaim.holds_of_wide 5 Tryd.f5 rfl rfl rfl rfl rfl rfl rfl ⟨rfl, rfl, rfl, rfl, rfl⟩ rfl rfl rfl rfl rfl (by kernel_rfl) Tryd.func5 (by kernel_rfl)
    (of_decide_eq_true (by kernel_rfl)) (by unfold Func.isWrapper; first | (rw [if_pos (by decide +kernel)]; kernel_rfl) | (rw [if_neg (by decide +kernel)]; exact ⟨rfl, rfl⟩))
    (fun os started H enc _ => lifted os started H enc)
theorem proved : Rows.HeaderErrorsSaid := over
theorem card : Rows.HeaderErrorsCardSaid :=
  Claim7.holds_tied_plain_at .later [] [.data, .widerDeep, .widerDeep, .widerDeep] true (true, "77f595bf2cfe60bdebb5d6822e329b7562a333aceda0c9cd5b1439e0cd6bc034") false proved (fun _ h => by cases h) (by kernel_rfl) (fun _ h => by cases h) headerErrors_row_tie rfl ⟨rfl, rfl⟩ (by kernel_rfl) rfl
    (fun f fn hf hfn => by
      obtain rfl : f = 5 := Option.some.inj ((show Tryd.prog.funcNamed Rows.headerErrorsRow.func = some 5 by kernel_rfl).symm.trans hf) |>.symm
      obtain rfl : fn = Tryd.f5 := (Option.some.inj (Tryd.func5.symm.trans hfn)).symm
      exact ⟨by kernel_rfl, fun j t ht => by
        rw [Tryd.params5] at ht
        have hm : t ∈ [27, 3, 5, 3] := by simpa using Array.mem_of_getElem? ht
        have hall : ([27, 3, 5, 3].all fun u => !Tryd.prog.wantsStandIn u) = true := by kernel_rfl
        exact (show Tryd.prog.wantsStandIn t = false by simpa using List.all_eq_true.1 hall t hm)⟩)
    (by kernel_rfl)
#print axioms card
end Go.Proofs.YtopldeeojehklaaDoor.headerErrors
namespace Go.Proofs.YtopldeeojehklaaDoor
theorem headerErrors_holds : Rows.HeaderErrorsCardSaid := headerErrors.card
end Go.Proofs.YtopldeeojehklaaDoor
