/- HeaderBack tells true: the plain law. What the rows of the headers' laws hand in: headers, segments, sections, bytes; the package's tables where they are laid. What the rows of the headers' laws hand in, opened: bytes, segments, sections, headers. -/
import Derived.Test.YtopldeeojehklaaDoorHb6
import Derived.Test.YtopldeeojehklaaDoorHb14
import Derived.Test.YtopldeeojehklaaDoorHb13
import Derived.Test.YtopldeeojehklaaDoorHb15
import Derived.Test.YtopldeeojehklaaDoorHb16
import Derived.Test.YtopldeeojehklaaDoorHb12
import Derived.Test.YtopldeeojehklaaDoorRows
import Derived.ProofKit
import Derived.OpenShut
import Derived.LaidLaws
import Derived.Lib.LaidTab
import Derived.ChangeSame
import Derived.Deep.Slices
namespace Go.Proofs.YtopldeeojehklaaDoor.B
open Go.RowKit Go.Proofs.YtopldeeojehklaaDoorW.PrintWords Go.Proofs.YtopldeeojehklaaDoorW.PrintLast Go.Proofs.YtopldeeojehklaaDoorW.PrintMore
attribute [local go_sem] max2_int min2_int max_two min_two max_three min_three max_four min_four   -- for this text's walks alone
set_option linter.unusedVariables false
set_option linter.unusedSimpArgs false
attribute [local go_sem high] eqA30 eqA32
mutual
noncomputable def sundiallaw03_HeaderBack.j0 : Nat → List Int → Int → Bool → Int → Int → Int → List (S30) → List (S32) → Int → Int → Int → List (S30) → List (S32) → Option (Bool)
  | 0, _, _, _, _, _, _, _, _, _, _, _, _, _ => none
  | k + 1, x5, x7, x35, x364000, x364001, x364002, x364003, x364004, x380000, x380001, x380002, x380003, x380004 => if x35 = true then (if x7 = 32 then ((sundialref03_Same.f k x380000 x380001 x380002 x380003 x380004 0 0 0 ([] : List (S30)) ([] : List (S32))).bind fun t380 => (if t380 = true then ((sundiallaw03_wakes.f).bind fun t381 => (some t381)) else (some false))) else (some false)) else (sundiallaw03_HeaderBack.l0 k x5 x7 0 x364000 64 (IntKind.u64.wrap (64 + (IntKind.u64.wrap (56 * (IntKind.u64.wrap ((x364003.length : Int))))))) x364003 x364004 x380000 x380001 x380002 x380003 x380004)
noncomputable def sundiallaw03_HeaderBack.l0 : Nat → List Int → Int → Int → Int → Int → Int → List (S30) → List (S32) → Int → Int → Int → List (S30) → List (S32) → Option (Bool)
  | 0, _, _, _, _, _, _, _, _, _, _, _, _, _ => none
  | k + 1, x5, x7, x8, x364000, x364001, x364002, x364003, x364004, x380000, x380001, x380002, x380003, x380004 => if x8 < (x364003.length : Int) then (if 0 ≤ x8 then ((header_Segment.f ((rd_T30 x364003 x8).f0) ((rd_T30 x364003 x8).f1) ((rd_T30 x364003 x8).f2) ((rd_T30 x364003 x8).f3) ((rd_T30 x364003 x8).f4) ((rd_T30 x364003 x8).f5) ((rd_T30 x364003 x8).f6)).bind fun t383 => ((header_TakeSegment.f t383).bind fun bt386 => (if bt386.2.2.2.2.2.2.2 = 0 then (if (!(bt386.1 == ((rd_T30 x364003 x8).f0)) || (!(bt386.2.1 == ((rd_T30 x364003 x8).f1)) || (!(bt386.2.2.1 == ((rd_T30 x364003 x8).f2)) || (!(bt386.2.2.2.1 == ((rd_T30 x364003 x8).f3)) || (!(bt386.2.2.2.2.1 == ((rd_T30 x364003 x8).f4)) || (!(bt386.2.2.2.2.2.1 == ((rd_T30 x364003 x8).f5)) || (!(bt386.2.2.2.2.2.2.1 == ((rd_T30 x364003 x8).f6))))))))) = true then (some false) else (sundiallaw03_HeaderBack.l0 k x5 x7 (wrap64 (x8 + 1)) x364000 x364001 x364002 x364003 x364004 x380000 x380001 x380002 x380003 x380004)) else (some false)))) else (none)) else (sundiallaw03_HeaderBack.l1 k x5 x7 0 x364000 x364001 x364002 x364003 x364004 x380000 x380001 x380002 x380003 x380004)
noncomputable def sundiallaw03_HeaderBack.l1 : Nat → List Int → Int → Int → Int → Int → Int → List (S30) → List (S32) → Int → Int → Int → List (S30) → List (S32) → Option (Bool)
  | 0, _, _, _, _, _, _, _, _, _, _, _, _, _ => none
  | k + 1, x5, x7, x11, x364000, x364001, x364002, x364003, x364004, x380000, x380001, x380002, x380003, x380004 => if x11 < (x364004.length : Int) then (if 0 ≤ x11 then ((header_Section.f ((rd_T32 x364004 x11).f0) ((rd_T32 x364004 x11).f1) ((rd_T32 x364004 x11).f2) ((rd_T32 x364004 x11).f3) ((rd_T32 x364004 x11).f4)).bind fun t397 => ((header_TakeSection.f t397).bind fun bt400 => (if bt400.2.2.2.2.2 = 0 then (if (!(bt400.1 == ((rd_T32 x364004 x11).f0)) || (!(bt400.2.1 == ((rd_T32 x364004 x11).f1)) || (!(bt400.2.2.1 == ((rd_T32 x364004 x11).f2)) || (!(bt400.2.2.2.1 == ((rd_T32 x364004 x11).f3)) || (!(bt400.2.2.2.2.1 == ((rd_T32 x364004 x11).f4))))))) = true then (some false) else (sundiallaw03_HeaderBack.l1 k x5 x7 (wrap64 (x11 + 1)) x364000 x364001 x364002 x364003 x364004 x380000 x380001 x380002 x380003 x380004)) else (some false)))) else (none)) else (if x7 = 0 then ((sundialref03_Same.f k x380000 x380001 x380002 x380003 x380004 x364000 x364001 x364002 x364003 x364004).bind fun t408 => (if t408 = true then ((header_Head.f x364000 x364001 x364002 x364003 x364004).bind fun t409 => (if 64 ≤ (x5.length : Int) then ((sundiallaw03_same.f t409 (x5.take 64)).bind fun t416 => (if t416 = true then ((sundiallaw03_wakes.f).bind fun t417 => (some t417)) else (some false))) else (none))) else (some false))) else (some false))
end
noncomputable def sundiallaw03_HeaderBack.f (k : Nat) (a0_0 : Int) (a0_1 : Int) (a0_2 : Int) (l0_3 : List (S30)) (l0_4 : List (S32)) (l1 : List Int) : Option (Bool) := (sundiallaw03_great.f a0_0 a0_1 a0_2 l0_3 l0_4 l1).bind fun t364 => (if t364 = true then ((sundiallaw03_wakes.f).bind fun t365 => (some t365)) else ((sundialref03_Laid.f k a0_0 a0_1 a0_2 l0_3 l0_4 l1).bind fun t366 => ((header_Read.f t366).bind fun bt369 => (if (l0_3.length : Int) > 16 then (sundiallaw03_HeaderBack.j0 k t366 bt369.2.2.2.2.2 true a0_0 a0_1 a0_2 l0_3 l0_4 bt369.1 bt369.2.1 bt369.2.2.1 bt369.2.2.2.1 bt369.2.2.2.2.1) else (sundiallaw03_HeaderBack.j0 k t366 bt369.2.2.2.2.2 (decide ((l0_4.length : Int) > 32)) a0_0 a0_1 a0_2 l0_3 l0_4 bt369.1 bt369.2.1 bt369.2.2.1 bt369.2.2.2.1 bt369.2.2.2.2.1)))))
end Go.Proofs.YtopldeeojehklaaDoor.B
namespace Go.Proofs.YtopldeeojehklaaDoor.B
open Go.RowKit Go.Proofs.YtopldeeojehklaaDoorW.PrintWords Go.Proofs.YtopldeeojehklaaDoorW.PrintMore Go.RF
set_option linter.unusedVariables false
set_option linter.unusedSimpArgs false
theorem wakes_f : sundiallaw03_wakes.f = some true := by
  unfold sundiallaw03_wakes.f header_Read.f header_Head.f header_Segment.f header_Section.f
  rw [G.Read_eq, if_pos (by decide), Option.bind_some, G.Head_eq, Option.bind_some, G.Read_eq, if_pos (by show BB (headP 7 0 0 0 0); decide), Option.bind_some, if_pos (by decide), G.Read_eq, if_pos (by decide), Option.bind_some, G.Segment_eq, Option.bind_some, G.Section_eq, Option.bind_some]
  have e1 : readP [] = (0, 0, 0, [], [], 30) := by kernel_rfl
  have e2 : readP (headP 7 0 0 ([] : List S30).length ([] : List S32).length) = (7, 0, 0, [], [], 0) := wakes_read
  have e3 : readP (List.replicate 64 0) = (0, 0, 0, [], [], 31) := by kernel_rfl
  have e4 : (segP 0 0 0 0 0 0 0).length = 56 := by rw [segP_list]; rfl
  have e5 : (secP 0 0 0 0 0).length = 64 := by rw [secP_list]; rfl
  rw [e1, e2, e3, e4, e5]
  rfl
theorem same_refl (l : List Int) : sundiallaw03_same.f l l = some true := by
  unfold sundiallaw03_same.f
  rw [beq_self_eq_true]
theorem rsame_l1 (a0 a1 a2 b0 b1 b2 : Int) (S T : List S30) (C : List S32) (hC : C.length ≤ 1000) : ∀ (d i k : Nat), i + d = C.length → d + 1 ≤ k → sundialref03_Same.l1 k (i : Int) a0 a1 a2 S C b0 b1 b2 T C = some true
  | 0, i, k, hi, hk => by
    obtain ⟨k, rfl⟩ : ∃ m, k = m + 1 := ⟨k - 1, by omega⟩
    rw [sundialref03_Same.l1, if_neg (by omega)]
  | d + 1, i, k, hi, hk => by
    obtain ⟨k, rfl⟩ : ∃ m, k = m + 1 := ⟨k - 1, by omega⟩
    have e3 : wrap64 ((i : Int) + 1) = ((i + 1 : Nat) : Int) := by unfold wrap64; omega
    rw [sundialref03_Same.l1, if_pos (by omega), if_pos (by omega), if_pos (by omega), if_neg (by simp only [beq_self_eq_true]; decide), e3]
    exact rsame_l1 a0 a1 a2 b0 b1 b2 S T C hC d (i + 1) k (by omega) (by omega)
theorem rsame_l0 (a0 a1 a2 b0 b1 b2 : Int) (S : List S30) (C : List S32) (hS : S.length ≤ 1000) (hC : C.length ≤ 1000) : ∀ (d i k : Nat), i + d = S.length → d + C.length + 2 ≤ k → sundialref03_Same.l0 k (i : Int) a0 a1 a2 S C b0 b1 b2 S C = some true
  | 0, i, k, hi, hk => by
    obtain ⟨k, rfl⟩ : ∃ m, k = m + 1 := ⟨k - 1, by omega⟩
    rw [sundialref03_Same.l0, if_neg (by omega)]
    exact rsame_l1 a0 a1 a2 b0 b1 b2 S S C hC C.length 0 k (by omega) (by omega)
  | d + 1, i, k, hi, hk => by
    obtain ⟨k, rfl⟩ : ∃ m, k = m + 1 := ⟨k - 1, by omega⟩
    have e3 : wrap64 ((i : Int) + 1) = ((i + 1 : Nat) : Int) := by unfold wrap64; omega
    rw [sundialref03_Same.l0, if_pos (by omega), if_pos (by omega), if_pos (by omega), if_neg (by simp only [beq_self_eq_true]; decide), e3]
    exact rsame_l0 a0 a1 a2 b0 b1 b2 S C hS hC d (i + 1) k (by omega) (by omega)
theorem rsame_refl (a0 a1 a2 : Int) (S : List S30) (C : List S32) (hS : S.length ≤ 1000) (hC : C.length ≤ 1000) (k : Nat) (hk : S.length + C.length + 3 ≤ k) : sundialref03_Same.f k a0 a1 a2 S C a0 a1 a2 S C = some true := by
  obtain ⟨k, rfl⟩ : ∃ m, k = m + 1 := ⟨k - 1, by omega⟩
  unfold sundialref03_Same.f
  rw [if_pos rfl, if_pos rfl, if_pos rfl, if_pos rfl, sundialref03_Same.j0, if_neg (by simp)]
  exact rsame_l0 a0 a1 a2 a0 a1 a2 S C hS hC S.length 0 k (by omega) (by omega)
theorem BB_append {l r : List Int} (h1 : BB l) (h2 : BB r) : BB (l ++ r) := by
  intro x hx
  rcases List.mem_append.1 hx with h | h
  · exact h1 x h
  · exact h2 x h
theorem b2_BB (x : Int) : BB (b2 x) := bytesN_BB x 2
theorem b4_BB (x : Int) : BB (b4 x) := bytesN_BB x 4
theorem b8_BB (x : Int) : BB (b8 x) := bytesN_BB x 8
theorem segB_BB (x : S30) : BB (segB x) := by
  unfold segB
  rw [segP_list]
  exact BB_append (b4_BB _) (BB_append (b4_BB _) (BB_append (b8_BB _) (BB_append (b8_BB _) (BB_append (by decide) (BB_append (b8_BB _) (BB_append (b8_BB _) (b8_BB _)))))))
theorem secB_BB (x : S32) : BB (secB x) := by
  unfold secB
  rw [secP_list]
  exact BB_append (by decide) (BB_append (b4_BB _) (BB_append (by decide) (BB_append (b8_BB _) (BB_append (b8_BB _) (BB_append (b4_BB _) (BB_append (by decide) (b8_BB _)))))))
theorem headP_BB (a0 a1 a2 : Int) (n m : Nat) : BB (headP a0 a1 a2 n m) := by
  rw [headP_list]
  exact BB_append (by decide) (BB_append (b8_BB _) (BB_append (b8_BB _) (BB_append (b8_BB _) (BB_append (by decide) (BB_append (b2_BB _) (BB_append (by decide) (BB_append (b2_BB _) (by decide))))))))
theorem flat_BB {α : Type} (f : α → List Int) (h : ∀ x, BB (f x)) : ∀ l : List α, BB ((l.map f).flatten)
  | [] => by intro x hx; simp at hx
  | a :: l => by
    rw [List.map_cons, List.flatten_cons]
    exact BB_append (h a) (flat_BB f h l)
theorem obj_BB (a0 a1 a2 : Int) (S : List S30) (C : List S32) {r : List Int} (hr : BB r) : BB (objP a0 a1 a2 S C r) :=
  BB_append (headP_BB _ _ _ _ _) (BB_append (flat_BB _ segB_BB S) (BB_append (flat_BB _ secB_BB C) hr))
theorem take_seg (x : S30) (h : GoodSeg x) : header_TakeSegment.f (segB x) = some (x.f0, x.f1, x.f2, x.f3, x.f4, x.f5, x.f6, 0) := by
  unfold header_TakeSegment.f
  have hl := segB_len x
  rw [G.TakeSegment_eq, if_pos ⟨segB_BB x, by omega⟩]
  unfold takeSegP
  have e := segV_segB x h []
  rw [List.append_nil] at e
  rw [if_neg (by omega), e]
  rfl
theorem take_sec (x : S32) (h : GoodSec x) : header_TakeSection.f (secB x) = some (x.f0, x.f1, x.f2, x.f3, x.f4, 0) := by
  unfold header_TakeSection.f
  have hl := secB_len x
  rw [G.TakeSection_eq, if_pos ⟨secB_BB x, by omega⟩]
  unfold takeSecP
  have e := secV_secB x h []
  rw [List.append_nil] at e
  rw [if_neg (by omega), e]
  rfl
theorem back_l1 (o : List Int) (a0 : Int) (S : List S30) (C : List S32) (r : List Int) (ho : o = objP a0 64 (64 + 56 * (S.length : Int)) S C r) (hC : ∀ x ∈ C, GoodSec x) (hS1 : S.length ≤ 1000) (hC1 : C.length ≤ 1000) : ∀ (d i k : Nat), i + d = C.length → d + S.length + C.length + 5 ≤ k →
    sundiallaw03_HeaderBack.l1 k o 0 (i : Int) a0 64 (64 + 56 * (S.length : Int)) S C a0 64 (64 + 56 * (S.length : Int)) S C = some true
  | 0, i, k, hi, hk => by
    obtain ⟨k, rfl⟩ : ∃ m, k = m + 1 := ⟨k - 1, by omega⟩
    have hol := obj_len a0 64 (64 + 56 * (S.length : Int)) S C r
    rw [sundiallaw03_HeaderBack.l1, if_neg (by omega), if_pos rfl, rsame_refl _ _ _ _ _ hS1 hC1 k (by omega), Option.bind_some, if_pos rfl]
    unfold header_Head.f
    rw [G.Head_eq, Option.bind_some, if_pos (by rw [ho]; omega)]
    have e : o.take 64 = headP a0 64 (64 + 56 * (S.length : Int)) S.length C.length := by
      rw [ho]
      unfold objP
      exact List.take_left' (head_len _ _ _ _ _)
    rw [e, same_refl, Option.bind_some, if_pos rfl, wakes_f]
    rfl
  | d + 1, i, k, hi, hk => by
    obtain ⟨k, rfl⟩ : ∃ m, k = m + 1 := ⟨k - 1, by omega⟩
    have hlt : i < C.length := by omega
    have e3 : wrap64 ((i : Int) + 1) = ((i + 1 : Nat) : Int) := by unfold wrap64; omega
    have erd : rd_T32 C (i : Int) = C[i] := by
      unfold rd_T32
      rw [Int.toNat_natCast, List.getD_eq_getElem?_getD, List.getElem?_eq_getElem hlt]
      rfl
    have hg := hC C[i] (List.getElem_mem hlt)
    rw [sundiallaw03_HeaderBack.l1, if_pos (by omega), if_pos (by omega), erd, e3]
    unfold header_Section.f
    rw [G.Section_eq, Option.bind_some, show secP C[i].f0 C[i].f1 C[i].f2 C[i].f3 C[i].f4 = secB C[i] from rfl, take_sec _ hg, Option.bind_some, if_pos rfl, if_neg (by simp only [beq_self_eq_true]; decide)]
    exact back_l1 o a0 S C r ho hC hS1 hC1 d (i + 1) k (by omega) (by omega)
theorem back_l0 (o : List Int) (a0 : Int) (S : List S30) (C : List S32) (r : List Int) (ho : o = objP a0 64 (64 + 56 * (S.length : Int)) S C r) (hS : ∀ x ∈ S, GoodSeg x) (hC : ∀ x ∈ C, GoodSec x) (hS1 : S.length ≤ 1000) (hC1 : C.length ≤ 1000) : ∀ (d i k : Nat), i + d = S.length → d + S.length + 2 * C.length + 6 ≤ k →
    sundiallaw03_HeaderBack.l0 k o 0 (i : Int) a0 64 (64 + 56 * (S.length : Int)) S C a0 64 (64 + 56 * (S.length : Int)) S C = some true
  | 0, i, k, hi, hk => by
    obtain ⟨k, rfl⟩ : ∃ m, k = m + 1 := ⟨k - 1, by omega⟩
    rw [sundiallaw03_HeaderBack.l0, if_neg (by omega)]
    exact back_l1 o a0 S C r ho hC hS1 hC1 C.length 0 k (by omega) (by omega)
  | d + 1, i, k, hi, hk => by
    obtain ⟨k, rfl⟩ : ∃ m, k = m + 1 := ⟨k - 1, by omega⟩
    have hlt : i < S.length := by omega
    have e3 : wrap64 ((i : Int) + 1) = ((i + 1 : Nat) : Int) := by unfold wrap64; omega
    have erd : rd_T30 S (i : Int) = S[i] := by
      unfold rd_T30
      rw [Int.toNat_natCast, List.getD_eq_getElem?_getD, List.getElem?_eq_getElem hlt]
      rfl
    have hg := hS S[i] (List.getElem_mem hlt)
    rw [sundiallaw03_HeaderBack.l0, if_pos (by omega), if_pos (by omega), erd, e3]
    unfold header_Segment.f
    rw [G.Segment_eq, Option.bind_some, show segP S[i].f0 S[i].f1 S[i].f2 S[i].f3 S[i].f4 S[i].f5 S[i].f6 = segB S[i] from rfl, take_seg _ hg, Option.bind_some, if_pos rfl, if_neg (by simp only [beq_self_eq_true]; decide)]
    exact back_l0 o a0 S C r ho hS hC hS1 hC1 d (i + 1) k (by omega) (by omega)
theorem great_f (a0 a1 a2 : Int) (S : List S30) (C : List S32) (r : List Int) : sundiallaw03_great.f a0 a1 a2 S C r = some (decide (40 < S.length ∨ 80 < C.length ∨ 6000 < r.length)) := by
  unfold sundiallaw03_great.f
  split
  · rw [decide_eq_true (by omega)]
  · split
    · rw [decide_eq_true (by omega)]
    · congr 1
      by_cases h : 6000 < r.length
      · rw [decide_eq_true (by omega), decide_eq_true (by omega)]
      · rw [decide_eq_false (by omega), decide_eq_false (by omega)]
theorem Pure.HeaderBack (a0 a1 a2 : Int) (S : List S30) (C : List S32) (r : List Int) (h0 : Rg a0) (hS : ∀ x ∈ S, GoodSeg x) (hC : ∀ x ∈ C, GoodSec x) (hr : BB r) :
    sundiallaw03_HeaderBack.f 1000 a0 a1 a2 S C r = some true := by
  unfold sundiallaw03_HeaderBack.f
  rw [great_f, Option.bind_some]
  by_cases hg : 40 < S.length ∨ 80 < C.length ∨ 6000 < r.length
  · rw [decide_eq_true hg, if_pos rfl, wakes_f]
    rfl
  rw [decide_eq_false hg, if_neg (by decide), rlaid a0 a1 a2 S C r (by omega) (by omega) (by omega) 1000 (by omega), Option.bind_some]
  unfold header_Read.f
  rw [G.Read_eq, if_pos (obj_BB _ _ _ _ _ hr), Option.bind_some]
  have hw : IntKind.u64.wrap (64 + (IntKind.u64.wrap (56 * (IntKind.u64.wrap (S.length : Int))))) = 64 + 56 * (S.length : Int) := by
    rw [wrapU (x := (S.length : Int)) (by omega) (by omega), wrapU (x := 56 * (S.length : Int)) (by omega) (by omega), wrapU (by omega) (by omega)]
  by_cases hm : 16 < S.length ∨ 32 < C.length
  · rw [read_many a0 S C r h0 (by omega) (by omega) hm (by omega)]
    have hj : sundiallaw03_HeaderBack.j0 1000 (objP a0 64 (64 + 56 * (S.length : Int)) S C r) 32 true a0 a1 a2 S C 0 0 0 [] [] = some true := by
      rw [sundiallaw03_HeaderBack.j0, if_pos rfl, if_pos rfl, rsame_refl _ _ _ _ _ (by decide) (by decide) _ (by decide), Option.bind_some, if_pos rfl, wakes_f]
      rfl
    by_cases h1 : (S.length : Int) > 16
    · rw [if_pos h1]
      exact hj
    · rw [if_neg h1, decide_eq_true (by omega)]
      exact hj
  · rw [read_obj a0 S C r h0 hS hC (by omega) (by omega) (by omega), if_neg (by omega), decide_eq_false (by omega), sundiallaw03_HeaderBack.j0, if_neg (by decide), hw]
    exact back_l0 _ a0 S C r rfl hS hC (by omega) (by omega) S.length 0 999 (by omega) (by omega)
end Go.Proofs.YtopldeeojehklaaDoor.B
namespace Go.Proofs.YtopldeeojehklaaDoor.R
open Go.RowKit Go.Deep Go.ChangeShapes Go.WideShapes Go.ChangeAt Go.Lib Go.Proofs.YtopldeeojehklaaDoorW.PrintWords Go.Proofs.YtopldeeojehklaaDoorW.PrintLast Go.Proofs.YtopldeeojehklaaDoorW.PrintMore Go.Proofs.YtopldeeojehklaaDoor.B Go.RF
set_option linter.unusedVariables false
theorem laid_read {P : Program} {w : World} : ∀ {l : List (String × DataW Unit)} {ps : List MemPlace}, DataW.LaidVars P w l ps → ∀ n d, (n, d) ∈ l →
    ∃ g t cs fuel p, P.globalNamed n = some g ∧ (P.globals[g]?).map (·.type) = some t ∧ w.var? P n = some cs ∧ DataW.trod (fun _ => ()) P w 0 (fun _ => true) false fuel t cs.toList = some (d, p)
  | [], _, _, _, _, hm => by cases hm
  | (n', d') :: r, ps, h, n, d, hm => by
    obtain ⟨g, t, cs, fuel, p, q, h1, h2, h3, h4, h5, _⟩ := h
    rcases List.mem_cons.1 hm with e | e
    · cases e
      exact ⟨g, t, cs, fuel, p, h1, h2, h3, h4⟩
    · exact laid_read h5 n d e
theorem laid_cells {P : Program} {w : World} {l : List (String × DataW Unit)} {name : String} {D : DataW Unit} {g t : Nat} (hL : laidMet P l w) (hm : (name, D) ∈ l) (hg : P.globalNamed name = some g) (htt : (P.globals[g]?).map (·.type) = some t) :
    ∃ c tt fr fuel p, w.heap[g]? = some (.cells c tt fr) ∧ DataW.trod (fun _ => ()) P w 0 (fun _ => true) false fuel t c.toList = some (D, p) := by
  obtain ⟨ps, hv, -⟩ := hL
  obtain ⟨g', t', cs, fuel, p, h1, h2, h3, h4⟩ := laid_read hv _ _ hm
  obtain rfl : g' = g := Option.some.inj (h1.symm.trans hg)
  obtain rfl : t' = t := Option.some.inj (h2.symm.trans htt)
  unfold World.var? at h3
  rw [hg] at h3
  simp only [Option.bind_some] at h3
  cases hh : w.heap[g']? with
  | none => rw [hh] at h3; simp at h3
  | some o =>
    rw [hh] at h3
    cases o with
    | cells c tt fr =>
      simp only [Option.some.injEq] at h3
      subst h3
      exact ⟨c, tt, fr, fuel, p, rfl, h4⟩
    | _ => simp at h3
section
variable {H : Type} {enc : TypeId × Value → H} {w : World} {base : Nat} {sp : Nat → Bool} {held : Bool} {fuel : Nat} {cs : List Value}
theorem flat_int {P : Program} {t : TypeId} {k : IntKind} {y : DataW H × List MemPlace} {a : Int} (ht : P.underlying t = some (.int k)) (h : DataW.trod enc P w base sp held fuel t cs = some y) (he : y.1 = .lit (.int k a)) : cs = [.int k a] := by
  obtain ⟨n, rfl, rfl, _⟩ := DataW.trod_int ht h
  injection he with he
  injection he with _ he
  rw [he]
theorem flat57 {a b : Int} {y : DataW H × List MemPlace} (h : DataW.trod enc Tryd.prog w base sp held fuel 57 cs = some y) (he : y.1 = .agg [.lit (.int .i64 a), .lit (.int .i64 b)]) : cs = [.int .i64 a, .int .i64 b] := by
  obtain ⟨xs, n, _, rfl, hcl, hxl, hF⟩ := DataW.trod_struct Tryd.underlying57 h
  have hcl' : cs.length = 2 := hcl
  have hxl' : xs.length = 2 := hxl
  match cs, hcl', xs, hxl' with
  | [v0, v1], _, [y0, y1], _ =>
    have g0 : DataW.trod enc Tryd.prog w base sp held n 3 [v0] = some y0 := hF 0 _ rfl
    have g1 : DataW.trod enc Tryd.prog w base sp held n 3 [v1] = some y1 := hF 1 _ rfl
    injection he with he
    injection he with e0 he
    injection he with e1 _
    have h0 := flat_int Tryd.underlying3 g0 e0
    have h1 := flat_int Tryd.underlying3 g1 e1
    injection h0 with h0 _
    injection h1 with h1 _
    rw [h0, h1]
theorem flat68 {a b z : Int} {y : DataW H × List MemPlace} (h : DataW.trod enc Tryd.prog w base sp held fuel 68 cs = some y) (he : y.1 = .agg [.agg [.lit (.int .i64 a), .lit (.int .i64 b)], .lit (.int .u64 z)]) : cs = [.int .i64 a, .int .i64 b, .int .u64 z] := by
  obtain ⟨xs, n, _, rfl, hcl, hxl, hF⟩ := DataW.trod_struct Tryd.underlying68 h
  have hcl' : cs.length = 3 := hcl
  have hxl' : xs.length = 2 := hxl
  match cs, hcl', xs, hxl' with
  | [v0, v1, v2], _, [y0, y1], _ =>
    have g0 : DataW.trod enc Tryd.prog w base sp held n 57 [v0, v1] = some y0 := hF 0 _ rfl
    have g1 : DataW.trod enc Tryd.prog w base sp held n 23 [v2] = some y1 := hF 1 _ rfl
    injection he with he
    injection he with e0 he
    injection he with e1 _
    have h0 := flat57 g0 e0
    have h1 := flat_int Tryd.underlying23 g1 e1
    injection h0 with h0 h0'
    injection h0' with h0' _
    injection h1 with h1 _
    rw [h0, h0', h1]
theorem arr_at {P : Program} {t e : TypeId} {n sz : Nat} {ds : List (DataW H)} {p : List MemPlace} (ht : P.underlying t = some (.array n e)) (hce : P.cellsOf e = sz) (hct : P.cellsOf t = n * sz) (h : DataW.trod enc P w base sp held fuel t cs = some (.agg ds, p)) :
    cs.length = n * sz ∧ ∀ i d, ds[i]? = some d → ∃ f y, DataW.trod enc P w base sp held f e ((cs.drop (i * sz)).take sz) = some y ∧ y.1 = d := by
  cases fuel with
  | zero => simp [DataW.trod] at h
  | succ fuel =>
    simp only [DataW.trod, ht, hce, hct] at h
    split at h
    · rename_i hl
      obtain ⟨xs, hm, hx⟩ := Option.map_eq_some_iff.1 h
      have hxs : xs.map (·.1) = ds := by
        have := congrArg Prod.fst hx
        injection this
      have hxl : xs.length = n := by simpa using mapM_length hm
      refine ⟨hl, fun i d hd => ?_⟩
      have hi : i < n := by
        have := (List.getElem?_eq_some_iff.1 hd).1
        rw [← hxs] at this
        simpa [hxl] using this
      obtain ⟨b, hb, hf⟩ := mapM_at hm i i (by simp [hi])
      refine ⟨_, b, hf, ?_⟩
      rw [← hxs, List.getElem?_map, hb] at hd
      exact Option.some.inj hd
    · cases h
end
theorem chunk {L X : List Value} {k m r : Nat} (h : (L.drop k).take m = X) (hr : r < m) : L[k + r]? = X[r]? := by
  rw [← h, List.getElem?_take, if_pos hr, List.getElem?_drop]
theorem cell_arr {w : World} {g : Nat} {c : Array Value} {tt : TypeId} {fr : Nat × Nat} (h : w.heap[g]? = some (.cells c tt fr)) (k : Nat) (v : Value) (hv : c.toList[k]? = some v) : w.cell? ⟨g, k, none⟩ = some v := by
  have : c[k]? = some v := by simpa using hv
  unfold World.cell?
  rw [h]
  simp [this]
theorem tab57 {w : World} {g t n : Nat} {l : List (String × DataW Unit)} {name : String} {ds : List (DataW Unit)} {F : List (Nat × Nat)} (hL : laidMet Tryd.prog l w) (hm : (name, .agg ds) ∈ l) (hg : Tryd.prog.globalNamed name = some g) (htt : (Tryd.prog.globals[g]?).map (·.type) = some t)
    (ht : Tryd.prog.underlying t = some (.array n 57)) (hct : Tryd.prog.cellsOf t = n * 2) (hd : ds = F.map fun f => .agg [.lit (.int .i64 (f.1 : Int)), .lit (.int .i64 (f.2 : Int))]) : FTab w g F ∧ g < w.heap.size := by
  obtain ⟨c, tt, fr, fuel, p, hh, h⟩ := laid_cells hL hm hg htt
  obtain ⟨_, ha⟩ := arr_at ht (by kernel_rfl) hct h
  refine ⟨fun i f hf => ?_, (Array.getElem?_eq_some_iff.1 hh).1⟩
  obtain ⟨f', y, h1, h2⟩ := ha i (.agg [.lit (.int .i64 (f.1 : Int)), .lit (.int .i64 (f.2 : Int))]) (by rw [hd, List.getElem?_map, hf]; rfl)
  have e := flat57 h1 h2
  exact ⟨cell_arr hh _ _ (chunk (r := 0) e (by decide)), cell_arr hh _ _ (chunk (r := 1) e (by decide))⟩
theorem drop3 {L X : List Value} {k : Nat} (h : (L.drop k).take 3 = X) : L.drop k = X ++ L.drop (k + 3) := by
  rw [← h, ← List.drop_drop]
  exact (List.take_append_drop 3 _).symm
abbrev LL : List (String × DataW Unit) := [("sundial/header.must", Rows.laid_sundial_header_must), ("sundial/header.places", Rows.laid_sundial_header_places), ("sundial/header.segment", Rows.laid_sundial_header_segment), ("sundial/header.section", Rows.laid_sundial_header_section)]
theorem must_of {w : World} (hL : laidMet Tryd.prog LL w) : MustB w := by
  obtain ⟨c, tt, fr, fuel, p, hh, h⟩ := laid_cells (t := 69) (g := 1) hL (.head _) (by kernel_rfl) (by kernel_rfl)
  obtain ⟨hl, ha⟩ := arr_at (n := 8) (e := 68) (sz := 3) (by kernel_rfl) (by kernel_rfl) (by kernel_rfl) h
  have k : ∀ (i : Nat) (a b z : Int), _ → (c.toList.drop (i * 3)).take 3 = [.int .i64 a, .int .i64 b, .int .u64 z] := fun i a b z hd => by
    obtain ⟨f', y, h1, h2⟩ := ha i (.agg [.agg [.lit (.int .i64 a), .lit (.int .i64 b)], .lit (.int .u64 z)]) hd
    exact flat68 h1 h2
  have d0 := drop3 (k 0 4 1 2 rfl)
  have d1 := drop3 (k 1 5 1 1 rfl)
  have d2 := drop3 (k 2 6 1 1 rfl)
  have d3 := drop3 (k 3 16 2 2 rfl)
  have d4 := drop3 (k 4 18 2 62 rfl)
  have d5 := drop3 (k 5 20 4 1 rfl)
  have d6 := drop3 (k 6 48 4 0 rfl)
  have d7 := drop3 (k 7 52 2 64 rfl)
  have d8 : c.toList.drop (7 * 3 + 3) = [] := List.drop_of_length_le (by omega)
  have e : c.toList = mustV.toList := by
    have := d0
    rw [show (0 * 3 + 3 : Nat) = 1 * 3 from rfl, d1, show (1 * 3 + 3 : Nat) = 2 * 3 from rfl, d2, show (2 * 3 + 3 : Nat) = 3 * 3 from rfl, d3, show (3 * 3 + 3 : Nat) = 4 * 3 from rfl, d4, show (4 * 3 + 3 : Nat) = 5 * 3 from rfl, d5, show (5 * 3 + 3 : Nat) = 6 * 3 from rfl, d6, show (6 * 3 + 3 : Nat) = 7 * 3 from rfl, d7, d8] at this
    exact this
  refine ⟨tt, fr, ?_⟩
  rw [hh, show c = mustV from Array.toList_inj.1 e]
theorem laid_of {w : World} (_ : ("sundial/header.must", (Rows.laid_sundial_header_must : DataW Unit)) ∈ LL) (hL : laidMet Tryd.prog LL w) : Tab w := by
  have p := tab57 (F := placesF) (t := 58) (n := 7) (g := 0) hL (.tail _ (.head _)) (by kernel_rfl) (by kernel_rfl) (by kernel_rfl) (by kernel_rfl) rfl
  have s := tab57 (F := segF) (t := 58) (n := 7) (g := 2) hL (.tail _ (.tail _ (.head _))) (by kernel_rfl) (by kernel_rfl) (by kernel_rfl) (by kernel_rfl) rfl
  have c := tab57 (F := secF) (t := 72) (n := 5) (g := 3) hL (.tail _ (.tail _ (.tail _ (.head _)))) (by kernel_rfl) (by kernel_rfl) (by kernel_rfl) (by kernel_rfl) rfl
  exact ⟨p.1, must_of hL, s.1, c.1, c.2⟩
end Go.Proofs.YtopldeeojehklaaDoor.R
namespace Go.Proofs.YtopldeeojehklaaDoor.R
open Go.RowKit Go.Deep Go.ChangeShapes Go.WideShapes Go.ChangeAt Go.Lib Go.Proofs.YtopldeeojehklaaDoorW.PrintWords Go.Proofs.YtopldeeojehklaaDoorW.PrintLast Go.Proofs.YtopldeeojehklaaDoorW.PrintMore Go.Proofs.YtopldeeojehklaaDoor.B Go.RF
set_option linter.unusedVariables false
section
variable {H : Type} {enc : TypeId × Value → H} {P : Program} {w : World} {base : Nat} {spare : Nat → Bool} {held : Bool}
theorem open_kint {t : TypeId} {k : IntKind} {fuel : Nat} {cs : List Value} {x : DataW H × List MemPlace} (he : P.underlying t = some (.int k)) (h : DataW.trod enc P w base spare held fuel t cs = some x) : ∃ y, (Kd.int k).K w y cs ∧ (Lit.int k y).wf = true := by
  obtain ⟨n, rfl, _, hw⟩ := DataW.trod_int he h
  exact ⟨n, rfl, hw⟩
theorem open_kslice {α : Type} [Inhabited α] (d : Kd α) (good : α → Prop) {t e : TypeId} {fuel : Nat} {cs : List Value} {x : DataW H × List MemPlace} (ht : P.underlying t = some (.slice e)) (hc : P.cellsOf e = d.sz)
    (hel : ∀ fuel cs x, DataW.trod enc P w base spare held fuel e cs = some x → ∃ y, d.K w y cs ∧ good y) (h : DataW.trod enc P w base spare held fuel t cs = some x) :
    ∃ (A : Option Addr) (c : Nat) (xs : List α), cs = [.slice A xs.length c] ∧ xs.length ≤ c ∧ d.C w A xs.length xs ∧ ∀ y ∈ xs, good y := by
  rcases open_slice ht h with ⟨rfl, _⟩ | ⟨a, len, cap, m, n, D, Pl, rfl, hb, hl, hm, hmm, rfl, hx⟩
  · exact ⟨none, 0, [], rfl, Nat.le_refl _, ⟨rfl, by simp, fun h => by simp at h⟩, fun y hy => by simp at hy⟩
  have hlm : len ≤ m := by rw [hmm]; split <;> omega
  obtain ⟨q, hq⟩ := choose_lt (α := α × List Value) (n := len) (p := fun i y => w.cells? base (a.add (i * P.cellsOf e)) (P.cellsOf e) = some y.2 ∧ d.K w y.1 y.2 ∧ good y.1) (fun i hi => by
    obtain ⟨cs', h1, h2⟩ := hx i (by omega)
    obtain ⟨y, h3, h4⟩ := hel _ _ _ h2
    exact ⟨(y, cs'), h1, h3, h4⟩)
  have hlen : ((List.range len).map fun i => (q i).1).length = len := by simp
  refine ⟨some a, cap, (List.range len).map fun i => (q i).1, by rw [hlen], by rw [hlen]; exact hl, ⟨rfl, by rw [hlen]; unfold maxLen at hm; omega, fun _ => ⟨a, rfl, fun j p hj => ?_⟩⟩, fun y hy => ?_⟩
  · obtain ⟨hjl, rfl⟩ := List.getElem?_eq_some_iff.1 hj
    rw [hlen] at hjl
    obtain ⟨h1, h2, h3⟩ := hq j hjl
    obtain ⟨_, hcl, hcell⟩ := World.cells?_some h1
    refine ⟨(q j).2, by rw [hcl, hc], by simpa using h2, fun i u hu => ?_⟩
    have hi := (List.getElem?_eq_some_iff.1 hu).1
    have e1 := hcell i (by omega)
    rw [Go.Deep.add_add, hc, hu] at e1
    exact e1
  · obtain ⟨i, hi, rfl⟩ := List.mem_map.1 hy
    exact (hq i (List.mem_range.1 hi)).2.2
end
instance : Inhabited S30 := ⟨⟨0, 0, 0, 0, 0, 0, 0⟩⟩
instance : Inhabited S32 := ⟨⟨0, 0, 0, 0, 0⟩⟩
theorem rg_wf {x : Int} (h : (Lit.int .u64 x).wf = true) : Rg x := by
  have h : IntKind.u64.min ≤ x ∧ x ≤ IntKind.u64.max := by simpa [Lit.wf] using h
  have e0 : IntKind.u64.min = 0 := by decide
  have e1 : IntKind.u64.max = 18446744073709551615 := by decide
  unfold Rg
  omega
theorem g32_wf {x : Int} (h : (Lit.int .u32 x).wf = true) : G32 x := by
  have h : IntKind.u32.min ≤ x ∧ x ≤ IntKind.u32.max := by simpa [Lit.wf] using h
  have e0 : IntKind.u32.min = 0 := by decide
  have e1 : IntKind.u32.max = 4294967295 := by decide
  unfold G32
  omega
section
variable {H : Type} {enc : TypeId × Value → H} {w : World} {base : Nat} {spare : Nat → Bool} {held : Bool}
theorem open_bytes {v : Value} {d : DataW H} {ps : List MemPlace} (hv : ∃ a n c, v = .slice a n c) (h : DataW.Trod enc Tryd.prog w base spare held 22 v d ps) :
    ∃ (A : Option Addr) (c : Nat) (l : List Int), v = .slice A l.length c ∧ l.length ≤ c ∧ Kd.C (Kd.int .u8) w A l.length l ∧ ∀ y ∈ l, (Lit.int .u8 y).wf = true := by
  obtain ⟨a, n, c, rfl⟩ := hv
  obtain ⟨fuel, hf⟩ := h
  obtain ⟨A, c', l, hcs, hl, hC, hg⟩ := open_kslice (Kd.int .u8) (fun b => (Lit.int .u8 b).wf = true) Tryd.underlying22 (by kernel_rfl) (fun _ _ _ h => open_kint Tryd.underlying5 h) hf
  have e : Value.slice a n c = .slice A l.length c' := by
    simp [Value.cells] at hcs
    obtain ⟨rfl, rfl, rfl⟩ := hcs
    rfl
  exact ⟨A, c', l, e, hl, hC, hg⟩
theorem bb_wf {l : List Int} (h : ∀ y ∈ l, (Lit.int .u8 y).wf = true) : BB l := by
  intro x hx
  have h : IntKind.u8.min ≤ x ∧ x ≤ IntKind.u8.max := by simpa [Lit.wf] using h x hx
  have e0 : IntKind.u8.min = 0 := by decide
  have e1 : IntKind.u8.max = 255 := by decide
  omega
theorem open_seg {fuel : Nat} {cs : List Value} {x : DataW H × List MemPlace} (h : DataW.trod enc Tryd.prog w base spare held fuel 30 cs = some x) :
    ∃ y : S30, k30.K w y cs ∧ GoodSeg y := by
  obtain ⟨xs, n, rfl, _, hcl, hxl, hf⟩ := DataW.trod_struct Tryd.underlying30 h
  have hcl' : cs.length = 7 := hcl
  have hxl' : xs.length = 7 := hxl
  match cs, hcl', xs, hxl' with
  | [v0, v1, v2, v3, v4, v5, v6], _, [y0, y1, y2, y3, y4, y5, y6], _ =>
    have g0 : DataW.trod enc Tryd.prog w base spare held n 28 [v0] = some y0 := hf 0 _ rfl
    have g1 : DataW.trod enc Tryd.prog w base spare held n 28 [v1] = some y1 := hf 1 _ rfl
    have g2 : DataW.trod enc Tryd.prog w base spare held n 23 [v2] = some y2 := hf 2 _ rfl
    have g3 : DataW.trod enc Tryd.prog w base spare held n 23 [v3] = some y3 := hf 3 _ rfl
    have g4 : DataW.trod enc Tryd.prog w base spare held n 23 [v4] = some y4 := hf 4 _ rfl
    have g5 : DataW.trod enc Tryd.prog w base spare held n 23 [v5] = some y5 := hf 5 _ rfl
    have g6 : DataW.trod enc Tryd.prog w base spare held n 23 [v6] = some y6 := hf 6 _ rfl
    obtain ⟨a0, h0, w0⟩ := open_kint Tryd.underlying28 g0
    obtain ⟨a1, h1, w1⟩ := open_kint Tryd.underlying28 g1
    obtain ⟨a2, h2, w2⟩ := open_kint Tryd.underlying23 g2
    obtain ⟨a3, h3, w3⟩ := open_kint Tryd.underlying23 g3
    obtain ⟨a4, h4, w4⟩ := open_kint Tryd.underlying23 g4
    obtain ⟨a5, h5, w5⟩ := open_kint Tryd.underlying23 g5
    obtain ⟨a6, h6, w6⟩ := open_kint Tryd.underlying23 g6
    exact ⟨⟨a0, a1, a2, a3, a4, a5, a6⟩, ⟨[v0], [v1, v2, v3, v4, v5, v6], rfl, h0, [v1], [v2, v3, v4, v5, v6], rfl, h1, [v2], [v3, v4, v5, v6], rfl, h2, [v3], [v4, v5, v6], rfl, h3, [v4], [v5, v6], rfl, h4, [v5], [v6], rfl, h5, h6⟩,
      g32_wf w0, g32_wf w1, rg_wf w2, rg_wf w3, rg_wf w4, rg_wf w5, rg_wf w6⟩
theorem open_sec {fuel : Nat} {cs : List Value} {x : DataW H × List MemPlace} (h : DataW.trod enc Tryd.prog w base spare held fuel 32 cs = some x) :
    ∃ y : S32, k32.K w y cs ∧ GoodSec y := by
  obtain ⟨xs, n, rfl, _, hcl, hxl, hf⟩ := DataW.trod_struct Tryd.underlying32 h
  have hcl' : cs.length = 5 := hcl
  have hxl' : xs.length = 5 := hxl
  match cs, hcl', xs, hxl' with
  | [v0, v1, v2, v3, v4], _, [y0, y1, y2, y3, y4], _ =>
    have g0 : DataW.trod enc Tryd.prog w base spare held n 28 [v0] = some y0 := hf 0 _ rfl
    have g1 : DataW.trod enc Tryd.prog w base spare held n 23 [v1] = some y1 := hf 1 _ rfl
    have g2 : DataW.trod enc Tryd.prog w base spare held n 23 [v2] = some y2 := hf 2 _ rfl
    have g3 : DataW.trod enc Tryd.prog w base spare held n 28 [v3] = some y3 := hf 3 _ rfl
    have g4 : DataW.trod enc Tryd.prog w base spare held n 23 [v4] = some y4 := hf 4 _ rfl
    obtain ⟨a0, h0, w0⟩ := open_kint Tryd.underlying28 g0
    obtain ⟨a1, h1, w1⟩ := open_kint Tryd.underlying23 g1
    obtain ⟨a2, h2, w2⟩ := open_kint Tryd.underlying23 g2
    obtain ⟨a3, h3, w3⟩ := open_kint Tryd.underlying28 g3
    obtain ⟨a4, h4, w4⟩ := open_kint Tryd.underlying23 g4
    exact ⟨⟨a0, a1, a2, a3, a4⟩, ⟨[v0], [v1, v2, v3, v4], rfl, h0, [v1], [v2, v3, v4], rfl, h1, [v2], [v3, v4], rfl, h2, [v3], [v4], rfl, h3, h4⟩, g32_wf w0, rg_wf w1, rg_wf w2, g32_wf w3, rg_wf w4⟩
end
def HdrIn (w : World) (cs : Array Value) : Prop := ∃ (a0 a1 a2 : Int) (A3 : Option Addr) (c3 : Nat) (S : List S30) (A4 : Option Addr) (c4 : Nat) (C : List S32),
  cs = #[.int .u64 a0, .int .u64 a1, .int .u64 a2, .slice A3 S.length c3, .slice A4 C.length c4] ∧ Kd.C k30 w A3 S.length S ∧ S.length ≤ c3 ∧ Kd.C k32 w A4 C.length C ∧ C.length ≤ c4 ∧ Rg a0 ∧ Rg a1 ∧ Rg a2 ∧ (∀ x ∈ S, GoodSeg x) ∧ (∀ x ∈ C, GoodSec x)
theorem ag_header {H : Type} {enc : TypeId × Value → H} {w : World} {base : Nat} {spare : Nat → Bool} {held : Bool} {v : Value} {d : DataW H} {ps : List MemPlace} (hv : ∃ cs, v = .agg cs ∧ cs.size = Tryd.prog.cellsOf 27) (h : DataW.Trod enc Tryd.prog w base spare held 27 v d ps) : ∃ cs, v = .agg cs ∧ HdrIn w cs := by
  obtain ⟨⟨cs⟩, rfl, hsz⟩ := hv
  have hsz' : cs.length = 5 := hsz
  obtain ⟨fuel, hf⟩ := h
  obtain ⟨xs, n, rfl, _, hcl, hxl, hF⟩ := DataW.trod_struct Tryd.underlying27 hf
  have hxl' : xs.length = 5 := hxl
  match cs, hsz', xs, hxl' with
  | [v0, v1, v2, v3, v4], _, [y0, y1, y2, y3, y4], _ =>
    have g0 : DataW.trod enc Tryd.prog w base spare held n 23 [v0] = some y0 := hF 0 _ rfl
    have g1 : DataW.trod enc Tryd.prog w base spare held n 23 [v1] = some y1 := hF 1 _ rfl
    have g2 : DataW.trod enc Tryd.prog w base spare held n 23 [v2] = some y2 := hF 2 _ rfl
    have g3 : DataW.trod enc Tryd.prog w base spare held n 24 [v3] = some y3 := hF 3 _ rfl
    have g4 : DataW.trod enc Tryd.prog w base spare held n 25 [v4] = some y4 := hF 4 _ rfl
    obtain ⟨a0, h0, w0⟩ := open_kint Tryd.underlying23 g0
    obtain ⟨a1, h1, w1⟩ := open_kint Tryd.underlying23 g1
    obtain ⟨a2, h2, w2⟩ := open_kint Tryd.underlying23 g2
    obtain ⟨A3, c3, S, e3, l3, C3, G3⟩ := open_kslice k30 GoodSeg (e := 30) (by kernel_rfl) (by kernel_rfl) (fun _ _ _ h => open_seg h) g3
    obtain ⟨A4, c4, C, e4, l4, C4, G4⟩ := open_kslice k32 GoodSec (e := 32) (by kernel_rfl) (by kernel_rfl) (fun _ _ _ h => open_sec h) g4
    have h0 : [v0] = [.int .u64 a0] := h0
    have h1 : [v1] = [.int .u64 a1] := h1
    have h2 : [v2] = [.int .u64 a2] := h2
    injection h0 with h0 _
    injection h1 with h1 _
    injection h2 with h2 _
    injection e3 with e3 _
    injection e4 with e4 _
    subst h0; subst h1; subst h2; subst e3; subst e4
    exact ⟨_, rfl, a0, a1, a2, A3, c3, S, A4, c4, C, rfl, C3, l3, C4, l4, rg_wf w0, rg_wf w1, rg_wf w2, G3, G4⟩
end Go.Proofs.YtopldeeojehklaaDoor.R
