/- What may be any makes no difference: the plain laws of HeaderAny. -/
import Derived.Test.YtopldeeojehklaaDoorYq15
namespace Go.Proofs.YtopldeeojehklaaDoor.B
open Go.RowKit Go.Proofs.YtopldeeojehklaaDoorW.PrintWords Go.Proofs.YtopldeeojehklaaDoorW.PrintMore Go.RF
set_option linter.unusedVariables false
set_option linter.unusedSimpArgs false
theorem sixteen {c : List Int} (h : c.length = 16) : ∃ x0 x1 x2 x3 x4 x5 x6 x7 x8 x9 x10 x11 x12 x13 x14 x15, c = [x0, x1, x2, x3, x4, x5, x6, x7, x8, x9, x10, x11, x12, x13, x14, x15] := by
  match c, h with
  | [x0, x1, x2, x3, x4, x5, x6, x7, x8, x9, x10, x11, x12, x13, x14, x15], _ => exact ⟨_, _, _, _, _, _, _, _, _, _, _, _, _, _, _, _, rfl⟩
theorem any_x2 (a0 : Int) (S : List S30) (C : List S32) (B : List Int) (hB : B.length = 16) :
    splice (splice (ob a0 S C) 7 ((B.drop 0).take 9)) 62 ((B.drop 9).take 2) =
      anyH ((B.drop 0).take 9) ((B.drop 9).take 2) a0 64 (64 + 56 * (S.length : Int)) S.length C.length ++ ((S.map segB).flatten ++ ((C.map secB).flatten ++ [])) := by
  obtain ⟨x0, x1, x2, x3, x4, x5, x6, x7, x8, x9, x10, x11, x12, x13, x14, x15, rfl⟩ := sixteen hB
  rw [ob_head, headP_list]
  rfl
theorem read_x2 (a0 : Int) (S : List S30) (C : List S32) (B : List Int) (hB : B.length = 16) (h0 : Rg a0) (hS : ∀ x ∈ S, GoodSeg x) (hC : ∀ x ∈ C, GoodSec x) (hn : S.length ≤ 16) (hm : C.length ≤ 32) :
    readP (splice (splice (ob a0 S C) 7 ((B.drop 0).take 9)) 62 ((B.drop 9).take 2)) = (a0, 64, 64 + 56 * (S.length : Int), S, C, 0) := by
  rw [any_x2 a0 S C B hB]
  exact read_any (by rw [List.length_take, List.length_drop, hB]; rfl) (by rw [List.length_take, List.length_drop, hB]; rfl) a0 S C h0 hS hC hn hm
theorem splice_BB {l B : List Int} (k : Nat) (h : BB l) (hB : BB B) : BB (splice l k B) := by
  unfold splice
  exact BB_append (h.take k) (BB_append hB (h.drop _))
theorem seg_any (x : S30) (h : GoodSeg x) (B : List Int) (hB : B.length = 16) : takeSegP (splice (segB x) 24 ((B.drop 0).take 8)) = segT x 0 := by
  obtain ⟨x0, x1, x2, x3, x4, x5, x6, x7, x8, x9, x10, x11, x12, x13, x14, x15, rfl⟩ := sixteen hB
  have e : splice (segB x) 24 (([x0, x1, x2, x3, x4, x5, x6, x7, x8, x9, x10, x11, x12, x13, x14, x15].drop 0).take 8) = b4 (IntKind.u64.wrap x.f0) ++ (b4 (IntKind.u64.wrap x.f1) ++ (b8 x.f2 ++ (b8 x.f3 ++ ([x0, x1, x2, x3, x4, x5, x6, x7] ++ (b8 x.f4 ++ (b8 x.f5 ++ b8 x.f6)))))) := by
    unfold segB; rw [segP_list]; rfl
  rw [e]
  obtain ⟨h0, h1, h2, h3, h4, h5, h6⟩ := h
  unfold takeSegP
  rw [if_neg (by show ¬ 56 < 56; decide)]
  have hv : segV (b4 (IntKind.u64.wrap x.f0) ++ (b4 (IntKind.u64.wrap x.f1) ++ (b8 x.f2 ++ (b8 x.f3 ++ ([x0, x1, x2, x3, x4, x5, x6, x7] ++ (b8 x.f4 ++ (b8 x.f5 ++ b8 x.f6))))))) = x := by
    have e : segV (b4 (IntKind.u64.wrap x.f0) ++ (b4 (IntKind.u64.wrap x.f1) ++ (b8 x.f2 ++ (b8 x.f3 ++ ([x0, x1, x2, x3, x4, x5, x6, x7] ++ (b8 x.f4 ++ (b8 x.f5 ++ b8 x.f6))))))) =
        ⟨IntKind.u32.wrap (numLE (b4 (IntKind.u64.wrap x.f0))), IntKind.u32.wrap (numLE (b4 (IntKind.u64.wrap x.f1))), numLE (b8 x.f2), numLE (b8 x.f3), numLE (b8 x.f4), numLE (b8 x.f5), numLE (b8 x.f6)⟩ := rfl
    rw [e, wrap64' h0, wrap64' h1, num_b4 h0.1 h0.2, num_b4 h1.1 h1.2, num_b8 h2, num_b8 h3, num_b8 h4, num_b8 h5, num_b8 h6, wrap32 h0, wrap32 h1]
  rw [hv]
theorem sec_any (x : S32) (h : GoodSec x) (B : List Int) (hB : B.length = 16) : takeSecP (splice (secB x) 0 ((B.drop 8).take 4)) = secT x 0 := by
  obtain ⟨x0, x1, x2, x3, x4, x5, x6, x7, x8, x9, x10, x11, x12, x13, x14, x15, rfl⟩ := sixteen hB
  have e : splice (secB x) 0 (([x0, x1, x2, x3, x4, x5, x6, x7, x8, x9, x10, x11, x12, x13, x14, x15].drop 8).take 4) = [x8, x9, x10, x11] ++ (b4 (IntKind.u64.wrap x.f0) ++ ([0, 0, 0, 0, 0, 0, 0, 0, 0, 0, 0, 0, 0, 0, 0, 0] ++ (b8 x.f1 ++ (b8 x.f2 ++ (b4 (IntKind.u64.wrap x.f3) ++ ([0, 0, 0, 0, 0, 0, 0, 0, 0, 0, 0, 0] ++ b8 x.f4)))))) := by
    unfold secB; rw [secP_list]; rfl
  rw [e]
  obtain ⟨h0, h1, h2, h3, h4⟩ := h
  unfold takeSecP
  rw [if_neg (by show ¬ 64 < 64; decide)]
  have hv : secV ([x8, x9, x10, x11] ++ (b4 (IntKind.u64.wrap x.f0) ++ ([0, 0, 0, 0, 0, 0, 0, 0, 0, 0, 0, 0, 0, 0, 0, 0] ++ (b8 x.f1 ++ (b8 x.f2 ++ (b4 (IntKind.u64.wrap x.f3) ++ ([0, 0, 0, 0, 0, 0, 0, 0, 0, 0, 0, 0] ++ b8 x.f4))))))) = x := by
    have e : secV ([x8, x9, x10, x11] ++ (b4 (IntKind.u64.wrap x.f0) ++ ([0, 0, 0, 0, 0, 0, 0, 0, 0, 0, 0, 0, 0, 0, 0, 0] ++ (b8 x.f1 ++ (b8 x.f2 ++ (b4 (IntKind.u64.wrap x.f3) ++ ([0, 0, 0, 0, 0, 0, 0, 0, 0, 0, 0, 0] ++ b8 x.f4))))))) =
        ⟨IntKind.u32.wrap (numLE (b4 (IntKind.u64.wrap x.f0))), numLE (b8 x.f1), numLE (b8 x.f2), IntKind.u32.wrap (numLE (b4 (IntKind.u64.wrap x.f3))), numLE (b8 x.f4)⟩ := rfl
    rw [e, wrap64' h0, wrap64' h3, num_b4 h0.1 h0.2, num_b4 h3.1 h3.2, num_b8 h1, num_b8 h2, num_b8 h4, wrap32 h0, wrap32 h3]
  rw [hv]
end Go.Proofs.YtopldeeojehklaaDoor.B
