/- The reference's bytes in plain words: Bytes, put, Head, Segment, Section, Laid. -/
import Derived.Test.YtopldeeojehklaaDoorYq11
import Derived.Test.YtopldeeojehklaaDoorYq12
import Derived.Test.YtopldeeojehklaaDoorYq5
namespace Go.Proofs.YtopldeeojehklaaDoor.B
open Go.RowKit Go.Proofs.YtopldeeojehklaaDoorW.PrintWords Go.Proofs.YtopldeeojehklaaDoorW.PrintMore Go.RF
set_option linter.unusedVariables false
set_option linter.unusedSimpArgs false
theorem rwide (n : Nat) (h1 : 1 ≤ n) (h8 : n ≤ 8) : sundialref01_wide.f (n : Int) = some (n : Int) := by
  unfold sundialref01_wide.f mn mx
  congr 1
  split <;> split <;> omega
theorem bytes_l0 (x : Int) (n : Nat) (h1 : 1 ≤ n) (h8 : n ≤ 8) : ∀ (d i k : Nat), i + d = n → d + 1 ≤ k → sundialref01_Bytes.l0 k x (n : Int) (bytesN x i) (i : Int) = some (bytesN x n)
  | 0, i, k, hi, hk => by
    obtain ⟨k, rfl⟩ : ∃ m, k = m + 1 := ⟨k - 1, by omega⟩
    rw [sundialref01_Bytes.l0, rwide n h1 h8]
    simp only [Option.bind_some]
    obtain rfl : i = n := by omega
    rw [if_neg (by omega)]
  | d + 1, i, k, hi, hk => by
    obtain ⟨k, rfl⟩ : ∃ m, k = m + 1 := ⟨k - 1, by omega⟩
    rw [sundialref01_Bytes.l0, rwide n h1 h8]
    simp only [Option.bind_some]
    have e1 : wrap64 (8 * (i : Int)) = 8 * (i : Int) := by unfold wrap64; omega
    have e2 : IntKind.u64.wrap (8 * (i : Int)) = 8 * (i : Int) := wrapU (by omega) (by omega)
    have e3 : wrap64 ((i : Int) + 1) = ((i + 1 : Nat) : Int) := by unfold wrap64; omega
    rw [e1, e2, e3, if_pos (by omega), if_pos (by omega), if_pos (by rw [bytesN_length]; omega)]
    have e4 : shr .u64 x (8 * (i : Int)) % 256 = byteN x i := by
      unfold shr byteN
      have : min (8 * (i : Int)).toNat IntKind.u64.bits = 8 * i := by
        have : IntKind.u64.bits = 64 := rfl
        omega
      rw [this]
    rw [e4, ← bytesN_succ]
    exact bytes_l0 x n h1 h8 d (i + 1) k (by omega) (by omega)
theorem rbytes (x : Int) (n : Nat) (h1 : 1 ≤ n) (h8 : n ≤ 8) (k : Nat) (hk : 9 ≤ k) : sundialref01_Bytes.f k x (n : Int) = some (bytesN x n) := by
  unfold sundialref01_Bytes.f
  exact bytes_l0 x n h1 h8 n 0 k (by omega) (by omega)
theorem rput (l : List Int) (x : Int) (n : Nat) (h1 : 1 ≤ n) (h8 : n ≤ 8) (k : Nat) (hk : 9 ≤ k) (hl : l.length ≤ 1000) : sundialref03_put.f k l x (n : Int) = some (l ++ bytesN x n) := by
  unfold sundialref03_put.f
  rw [rbytes x n h1 h8 k hk]
  simp only [Option.bind_some]
  rw [if_pos (by rw [bytesN_length]; omega)]
theorem rput2 (l : List Int) (x : Int) (k : Nat) (hk : 9 ≤ k) (hl : l.length ≤ 1000) : sundialref03_put.f k l x 2 = some (l ++ bytesN x 2) := rput l x 2 (by decide) (by decide) k hk hl
theorem rput4 (l : List Int) (x : Int) (k : Nat) (hk : 9 ≤ k) (hl : l.length ≤ 1000) : sundialref03_put.f k l x 4 = some (l ++ bytesN x 4) := rput l x 4 (by decide) (by decide) k hk hl
theorem rput8 (l : List Int) (x : Int) (k : Nat) (hk : 9 ≤ k) (hl : l.length ≤ 1000) : sundialref03_put.f k l x 8 = some (l ++ bytesN x 8) := rput l x 8 (by decide) (by decide) k hk hl
theorem rseg (a0 a1 a2 a3 a4 a5 a6 : Int) (k : Nat) (hk : 9 ≤ k) : sundialref03_Segment.f k a0 a1 a2 a3 a4 a5 a6 = some (segP a0 a1 a2 a3 a4 a5 a6) := by
  unfold sundialref03_Segment.f
  rw [rput4 _ _ k hk (by simp), Option.bind_some, rput4 _ _ k hk (by simp [bytesN_length]), Option.bind_some, rput8 _ _ k hk (by simp [bytesN_length]), Option.bind_some, rput8 _ _ k hk (by simp [bytesN_length]), Option.bind_some,
    rput8 _ _ k hk (by simp [bytesN_length]), Option.bind_some, rput8 _ _ k hk (by simp [bytesN_length]), Option.bind_some, rput8 _ _ k hk (by simp [bytesN_length]), Option.bind_some, rput8 _ _ k hk (by simp [bytesN_length]), Option.bind_some]
  congr 1
theorem rsec (a0 a1 a2 a3 a4 : Int) (k : Nat) (hk : 9 ≤ k) : sundialref03_Section.f k a0 a1 a2 a3 a4 = some (secP a0 a1 a2 a3 a4) := by
  unfold sundialref03_Section.f
  rw [rput4 _ _ k hk (by simp), Option.bind_some, rput4 _ _ k hk (by simp [bytesN_length]), Option.bind_some, if_pos (by simp [bytesN_length]), rput8 _ _ k hk (by simp [bytesN_length]), Option.bind_some, rput8 _ _ k hk (by simp [bytesN_length]), Option.bind_some,
    rput4 _ _ k hk (by simp [bytesN_length]), Option.bind_some, if_pos (by simp [bytesN_length]), rput8 _ _ k hk (by simp [bytesN_length]), Option.bind_some]
  congr 1
theorem rhead (a0 a1 a2 : Int) (S : List S30) (C : List S32) (k : Nat) (hk : 9 ≤ k) : sundialref03_Head.f k a0 a1 a2 S C = some (headP a0 a1 a2 S.length C.length) := by
  unfold sundialref03_Head.f
  rw [rput2 _ _ k hk (by simp), Option.bind_some, rput2 _ _ k hk (by simp [bytesN_length]), Option.bind_some, rput4 _ _ k hk (by simp [bytesN_length]), Option.bind_some, rput8 _ _ k hk (by simp [bytesN_length]), Option.bind_some, rput8 _ _ k hk (by simp [bytesN_length]), Option.bind_some,
    rput8 _ _ k hk (by simp [bytesN_length]), Option.bind_some, rput4 _ _ k hk (by simp [bytesN_length]), Option.bind_some, rput2 _ _ k hk (by simp [bytesN_length]), Option.bind_some, rput2 _ _ k hk (by simp [bytesN_length]), Option.bind_some, rput2 _ _ k hk (by simp [bytesN_length]), Option.bind_some,
    rput2 _ _ k hk (by simp [bytesN_length]), Option.bind_some, rput2 _ _ k hk (by simp [bytesN_length]), Option.bind_some, rput2 _ _ k hk (by simp [bytesN_length]), Option.bind_some]
  exact congrArg some (by kernel_rfl)
theorem laid_l1 (r : List Int) (a0 a1 a2 : Int) (S : List S30) (C : List S32) (hC : C.length ≤ 1000) (hr : r.length ≤ 100000) : ∀ (d i k : Nat) (acc : List Int), i + d = C.length → d + 10 ≤ k → acc.length + 64 * d ≤ 10000000 →
    sundialref03_Laid.l1 k r acc (i : Int) a0 a1 a2 S C = some (acc ++ (((C.drop i).map secB).flatten ++ r))
  | 0, i, k, acc, hi, hk, hl => by
    obtain ⟨k, rfl⟩ : ∃ m, k = m + 1 := ⟨k - 1, by omega⟩
    rw [sundialref03_Laid.l1, if_neg (by omega), if_pos (by omega), List.drop_of_length_le (by omega)]
    rfl
  | d + 1, i, k, acc, hi, hk, hl => by
    obtain ⟨k, rfl⟩ : ∃ m, k = m + 1 := ⟨k - 1, by omega⟩
    have hlt : i < C.length := by omega
    have e3 : wrap64 ((i : Int) + 1) = ((i + 1 : Nat) : Int) := by unfold wrap64; omega
    have erd : rd_T32 C (i : Int) = C[i] := by
      unfold rd_T32
      rw [Int.toNat_natCast, List.getD_eq_getElem?_getD, List.getElem?_eq_getElem hlt]
      rfl
    have hsl := secB_len C[i]
    rw [sundialref03_Laid.l1, if_pos (by omega), if_pos (by omega), rsec _ _ _ _ _ k (by omega), Option.bind_some, erd, e3]
    rw [if_pos (by have : (secP C[i].f0 C[i].f1 C[i].f2 C[i].f3 C[i].f4).length = 64 := hsl; omega)]
    have ih := laid_l1 r a0 a1 a2 S C hC hr d (i + 1) k (acc ++ secB C[i]) (by omega) (by omega) (by rw [List.length_append, hsl]; omega)
    rw [show secP C[i].f0 C[i].f1 C[i].f2 C[i].f3 C[i].f4 = secB C[i] from rfl, ih, List.drop_eq_getElem_cons hlt]
    simp only [List.map_cons, List.flatten_cons, List.append_assoc]
theorem laid_l0 (r : List Int) (a0 a1 a2 : Int) (S : List S30) (C : List S32) (hS : S.length ≤ 1000) (hC : C.length ≤ 1000) (hr : r.length ≤ 100000) : ∀ (d i k : Nat) (acc : List Int), i + d = S.length → d + C.length + 11 ≤ k → acc.length + 56 * d ≤ 1000000 →
    sundialref03_Laid.l0 k r acc (i : Int) a0 a1 a2 S C = some (acc ++ (((S.drop i).map segB).flatten ++ ((C.map secB).flatten ++ r)))
  | 0, i, k, acc, hi, hk, hl => by
    obtain ⟨k, rfl⟩ : ∃ m, k = m + 1 := ⟨k - 1, by omega⟩
    rw [sundialref03_Laid.l0, if_neg (by omega), List.drop_of_length_le (by omega)]
    have := laid_l1 r a0 a1 a2 S C hC hr C.length 0 k acc (by omega) (by omega) (by omega)
    rw [show ((0 : Nat) : Int) = 0 from rfl] at this
    rw [this]
    rfl
  | d + 1, i, k, acc, hi, hk, hl => by
    obtain ⟨k, rfl⟩ : ∃ m, k = m + 1 := ⟨k - 1, by omega⟩
    have hlt : i < S.length := by omega
    have e3 : wrap64 ((i : Int) + 1) = ((i + 1 : Nat) : Int) := by unfold wrap64; omega
    have erd : rd_T30 S (i : Int) = S[i] := by
      unfold rd_T30
      rw [Int.toNat_natCast, List.getD_eq_getElem?_getD, List.getElem?_eq_getElem hlt]
      rfl
    have hsl := segB_len S[i]
    rw [sundialref03_Laid.l0, if_pos (by omega), if_pos (by omega), rseg _ _ _ _ _ _ _ k (by omega), Option.bind_some, erd, e3]
    rw [if_pos (by have : (segP S[i].f0 S[i].f1 S[i].f2 S[i].f3 S[i].f4 S[i].f5 S[i].f6).length = 56 := hsl; omega)]
    have ih := laid_l0 r a0 a1 a2 S C hS hC hr d (i + 1) k (acc ++ segB S[i]) (by omega) (by omega) (by rw [List.length_append, hsl]; omega)
    rw [show segP S[i].f0 S[i].f1 S[i].f2 S[i].f3 S[i].f4 S[i].f5 S[i].f6 = segB S[i] from rfl, ih, List.drop_eq_getElem_cons hlt]
    simp only [List.map_cons, List.flatten_cons, List.append_assoc]
theorem rlaid (a0 a1 a2 : Int) (S : List S30) (C : List S32) (r : List Int) (hS : S.length ≤ 1000) (hC : C.length ≤ 1000) (hr : r.length ≤ 100000) (k : Nat) (hk : S.length + C.length + 20 ≤ k) :
    sundialref03_Laid.f k a0 a1 a2 S C r = some (objP a0 64 (64 + 56 * (S.length : Int)) S C r) := by
  unfold sundialref03_Laid.f
  have e0 : IntKind.u64.wrap (S.length : Int) = (S.length : Int) := wrapU (by omega) (by omega)
  have e1 : IntKind.u64.wrap (56 * (S.length : Int)) = 56 * (S.length : Int) := wrapU (by omega) (by omega)
  have e2 : IntKind.u64.wrap (64 + 56 * (S.length : Int)) = 64 + 56 * (S.length : Int) := wrapU (by omega) (by omega)
  rw [e0, e1, e2, rhead _ _ _ _ _ k (by omega), Option.bind_some]
  have := laid_l0 r a0 64 (64 + 56 * (S.length : Int)) S C hS hC hr S.length 0 k (headP a0 64 (64 + 56 * (S.length : Int)) S.length C.length) (by omega) (by omega) (by rw [head_len]; omega)
  rw [show ((0 : Nat) : Int) = 0 from rfl] at this
  rw [this]
  rfl
end Go.Proofs.YtopldeeojehklaaDoor.B
namespace Go.Proofs.YtopldeeojehklaaDoor.B
open Go.RowKit Go.Proofs.YtopldeeojehklaaDoorW.PrintWords Go.Proofs.YtopldeeojehklaaDoorW.PrintLast Go.Proofs.YtopldeeojehklaaDoorW.PrintMore
attribute [local go_sem] max2_int min2_int max_two min_two max_three min_three max_four min_four   -- for this text's walks alone
set_option linter.unusedVariables false
set_option linter.unusedSimpArgs false
theorem eqA30 (d : Nat) (w : World) (x0 y0 : Int) (x1 y1 : Int) (x2 y2 : Int) (x3 y3 : Int) (x4 y4 : Int) (x5 y5 : Int) (x6 y6 : Int) :
    (Op.equalIn (d + 2) 30 (.agg #[.int .u32 x0, .int .u32 x1, .int .u64 x2, .int .u64 x3, .int .u64 x4, .int .u64 x5, .int .u64 x6]) (.agg #[.int .u32 y0, .int .u32 y1, .int .u64 y2, .int .u64 y3, .int .u64 y4, .int .u64 y5, .int .u64 y6])).run Tryd.prog w = .ok (x0 == y0 && (x1 == y1 && (x2 == y2 && (x3 == y3 && (x4 == y4 && (x5 == y5 && (x6 == y6))))))) w := by
  refine eqA_of Tryd.underlying30 (by kernel_rfl) ?_
  refine eqf_cons (by rfl) (by go_simp; rfl) (by go_simp; rfl) (by go_simp) ?_
  refine eqf_cons (by rfl) (by go_simp; rfl) (by go_simp; rfl) (by go_simp) ?_
  refine eqf_cons (by rfl) (by go_simp; rfl) (by go_simp; rfl) (by go_simp) ?_
  refine eqf_cons (by rfl) (by go_simp; rfl) (by go_simp; rfl) (by go_simp) ?_
  refine eqf_cons (by rfl) (by go_simp; rfl) (by go_simp; rfl) (by go_simp) ?_
  refine eqf_cons (by rfl) (by go_simp; rfl) (by go_simp; rfl) (by go_simp) ?_
  exact eqf_last (by rfl) (by go_simp; rfl) (by go_simp; rfl) (by go_simp)
end Go.Proofs.YtopldeeojehklaaDoor.B
namespace Go.Proofs.YtopldeeojehklaaDoor.B
open Go.RowKit Go.Proofs.YtopldeeojehklaaDoorW.PrintWords Go.Proofs.YtopldeeojehklaaDoorW.PrintLast Go.Proofs.YtopldeeojehklaaDoorW.PrintMore
attribute [local go_sem] max2_int min2_int max_two min_two max_three min_three max_four min_four   -- for this text's walks alone
set_option linter.unusedVariables false
set_option linter.unusedSimpArgs false
theorem eqA32 (d : Nat) (w : World) (x0 y0 : Int) (x1 y1 : Int) (x2 y2 : Int) (x3 y3 : Int) (x4 y4 : Int) :
    (Op.equalIn (d + 2) 32 (.agg #[.int .u32 x0, .int .u64 x1, .int .u64 x2, .int .u32 x3, .int .u64 x4]) (.agg #[.int .u32 y0, .int .u64 y1, .int .u64 y2, .int .u32 y3, .int .u64 y4])).run Tryd.prog w = .ok (x0 == y0 && (x1 == y1 && (x2 == y2 && (x3 == y3 && (x4 == y4))))) w := by
  refine eqA_of Tryd.underlying32 (by kernel_rfl) ?_
  refine eqf_cons (by rfl) (by go_simp; rfl) (by go_simp; rfl) (by go_simp) ?_
  refine eqf_cons (by rfl) (by go_simp; rfl) (by go_simp; rfl) (by go_simp) ?_
  refine eqf_cons (by rfl) (by go_simp; rfl) (by go_simp; rfl) (by go_simp) ?_
  refine eqf_cons (by rfl) (by go_simp; rfl) (by go_simp; rfl) (by go_simp) ?_
  exact eqf_last (by rfl) (by go_simp; rfl) (by go_simp; rfl) (by go_simp)
end Go.Proofs.YtopldeeojehklaaDoor.B
