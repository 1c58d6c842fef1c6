import Derived.Test.YtkpkgpopmodagaaBx8
import Derived.Test.YtkpkgpopmodagaaRef
namespace Go.Proofs.Ytkpkgpopmodagaa.B
open Go.RowKit Go.Proofs.YtkpkgpopmodagaaW.PrintWords Go.Proofs.YtkpkgpopmodagaaW.PrintLast Go.Proofs.YtkpkgpopmodagaaW.PrintMore Go.RF
set_option linter.unusedVariables false
set_option linter.unusedSimpArgs false
theorem parts_j0_true (k : Nat) (l : List S34) (a1 a2 a3 : Int) : sundiallaw12_MemoryParts.j0 (k + 1) l a1 a2 a3 true = some true := by
  rw [sundiallaw12_MemoryParts.j0]
  rw [if_pos rfl, wakes_true, Option.bind_some]
theorem parts_ok (k : Nat) (m n : Int) (B1 B2 z : List Int) (h1 : B1.length ≤ 4096) (h2 : B2.length ≤ 4096) (hz : B1 ++ B2 = z) (hl : (z.length : Int) = wrap64 (m + n)) :
    sundiallaw12_MemoryParts.j1 (k + 1) m n B1 B2 z 0 false = some true := by
  rw [sundiallaw12_MemoryParts.j1, if_neg (by simp), if_pos rfl, Option.bind_some]
  rw [if_pos (show ([] : List Int).length + B1.length < 140737488355328 by rw [List.length_nil]; omega), Option.bind_some]
  rw [if_pos (show (([] : List Int) ++ B1).length + B2.length < 140737488355328 by rw [List.nil_append]; omega)]
  rw [List.nil_append, hz, same_refl, Option.bind_some, if_pos rfl, if_pos hl, wakes_true, Option.bind_some]
theorem parts_main (k : Nat) (l : List S34) (hs : Small l) (a1 : Int) (ha : InR a1) (m n : Nat) (hm : m ≤ 2000) (hn : n ≤ 2000) : sundiallaw12_MemoryParts.j0 (k + 2) l a1 m n false = some true := by
  rw [sundiallaw12_MemoryParts.j0]
  rw [if_neg (by simp)]
  have e1 : wrap64 ((m : Int) + (n : Int)) = ((m + n : Nat) : Int) := by rw [w64 (by omega)]; omega
  have e2 : IntKind.u64.wrap (a1 + IntKind.u64.wrap (m : Int)) = IntKind.u64.wrap (a1 + (m : Int)) := by simp only [u64w]; omega
  rw [e1, e2]
  unfold memory_Read.f G.Read
  simp only [Option.bind_some]
  obtain ⟨x1, x2⟩ := read_eq hs ha m (by omega)
  obtain ⟨y1, y2⟩ := read_eq hs (InR.w (a1 + (m : Int))) n (by omega)
  obtain ⟨z1, z2⟩ := read_eq hs ha (m + n) (by omega)
  have hadd := bytesAt_add l 4 m n a1 ha
  have hle1 := bytesAt_le l 4 m a1
  have hle2 := bytesAt_le l 4 n (IntKind.u64.wrap (a1 + (m : Int)))
  rw [x1, x2, y1, y2, z1, z2]
  generalize bytesAt l 4 m a1 = B1 at *
  generalize bytesAt l 4 n (IntKind.u64.wrap (a1 + (m : Int))) = B2 at *
  by_cases h1 : B1.length = m
  · rw [if_pos h1] at hadd
    by_cases h2 : B2.length = n
    · have h3 : (B1 ++ B2).length = m + n := by simp; omega
      simp only [hadd, if_pos h1, if_pos h2, if_pos h3]
      rw [if_pos trivial]
      exact parts_ok k _ _ B1 B2 (B1 ++ B2) (by omega) (by omega) rfl (by rw [e1, h3])
    · have h3 : ¬ (B1 ++ B2).length = m + n := by simp; omega
      simp only [hadd, if_pos h1, if_neg h2, if_neg h3]
      rw [if_pos trivial, sundiallaw12_MemoryParts.j1]
      simp [wakes_true]
  · rw [if_neg h1] at hadd
    have h3 : ¬ B1.length = m + n := by omega
    simp only [hadd, if_neg h1, if_neg h3]
    rw [if_neg (show ¬ (120 : Int) = 0 by omega), sundiallaw12_MemoryParts.j1]
    simp [wakes_true]
theorem Pure.MemoryParts (l : List S34) (a1 a2 a3 : Int) (hg : ∀ y ∈ l, GoodPage y) (w1 : (Lit.int .u64 a1).wf = true) (w2 : (Lit.int .i64 a2).wf = true) (w3 : (Lit.int .i64 a3).wf = true) :
    ∃ k, sundiallaw12_MemoryParts.f k l a1 a2 a3 = some true := by
  refine ⟨52, ?_⟩
  unfold sundiallaw12_MemoryParts.f
  obtain ⟨g, hgr, hgs⟩ := great_some l
  rw [hgr 52 (by omega), Option.bind_some]
  cases g with
  | true => rw [if_pos rfl]; exact parts_j0_true _ _ _ _ _
  | false =>
    rw [if_neg (by simp)]
    obtain ⟨hl, hs⟩ := hgs rfl
    obtain ⟨r, hr, _⟩ := right_some l hl
    rw [hr 52 (by omega), Option.bind_some]
    cases r with
    | false => rw [if_neg (by simp)]; exact parts_j0_true _ _ _ _ _
    | true =>
      rw [if_pos rfl]
      split
      · exact parts_j0_true _ _ _ _ _
      split
      · exact parts_j0_true _ _ _ _ _
      split
      · exact parts_j0_true _ _ _ _ _
      by_cases h : a3 > 2000
      · rw [show decide (a3 > 2000) = true from decide_eq_true h]; exact parts_j0_true _ _ _ _ _
      · rw [show decide (a3 > 2000) = false from decide_eq_false h]
        obtain ⟨m, rfl⟩ : ∃ m : Nat, a2 = m := ⟨a2.toNat, by omega⟩
        obtain ⟨n, rfl⟩ : ∃ n : Nat, a3 = n := ⟨a3.toNat, by omega⟩
        exact parts_main 50 l (small_of hg hs) a1 (inr_of w1) m n (by omega) (by omega)
end Go.Proofs.Ytkpkgpopmodagaa.B
