import Derived.Test.YtkpkgpopmodagaaBx1
import Derived.WalkKit
import Derived.Outline
namespace Go.Proofs.Ytkpkgpopmodagaa.B
open Go.RowKit Go.Proofs.YtkpkgpopmodagaaW.PrintWords Go.Proofs.YtkpkgpopmodagaaW.PrintLast Go.Proofs.YtkpkgpopmodagaaW.PrintMore
set_option linter.unusedVariables false
set_option linter.unusedSimpArgs false

/-- does an address stand on a page -/
def onPage (a : Int) (x : S34) : Bool := decide (x.f0 ≤ a) && decide (IntKind.u64.wrap (a - x.f0) < IntKind.u64.wrap (x.f2.length : Int))
/-- the first place where p holds, from k on -/
def firstAt (p : S34 → Bool) : List S34 → Nat → Int
  | [], _ => -1
  | x :: r, k => if p x then (k : Int) else firstAt p r (k + 1)
def findP (l : List S34) (a : Int) : Int := firstAt (onPage a) l 0

theorem drop_rd (l : List S34) (k : Nat) (h : k < l.length) : l.drop k = rd_T34 l (k : Int) :: l.drop (k + 1) := by
  rw [List.drop_eq_getElem_cons h]
  simp [rd_T34, List.getD_eq_getElem?_getD, List.getElem?_eq_getElem h]

theorem ret_bool {a b : Bool} (h : a = b) : Ending.returned (.bool a) = .returned (.bool b) := by rw [h]
theorem ret_i64 {a b : Int} (h : a = b) : Ending.returned (.int .i64 a) = .returned (.int .i64 b) := by rw [h]

theorem find1_calls (x : S34) (A2 : Option Addr) (c2 : Nat) (a : Int) (bx : Nat) (w : World) (hc : w.cell? ⟨bx, 0, none⟩ = some (.int .u64 a)) :
    Calls Try.prog 29 #[.agg #[.int .u64 x.f0, .int .u8 x.f1, .slice A2 x.f2.length c2], .pointer (some ⟨bx, 0, none⟩)] w fun e w' => e = .returned (.bool (onPage a x)) ∧ Below w.heap.size w w' := by
  have hlt := World.block_lt_of_cell? w _ hc
  by_cases h : x.f0 ≤ a
  all_goals
    go_enter Try.func29, Try.ntmps29
    go_wp2
    go_ret
    exact ⟨ret_bool (by first | (simp [onPage, h]; done) | (simp [onPage]; omega)), below_alloc (Below.refl _ _) _⟩

set_option maxRecDepth 100000 in
theorem indexFunc_calls (A0 : Option Addr) (c0 : Nat) (l0 : List S34) (a : Int) (bx : Nat) (w : World) (hr0 : Kd.C k34 w A0 l0.length l0) (hc : w.cell? ⟨bx, 0, none⟩ = some (.int .u64 a)) :
    Calls Try.prog 28 #[.slice A0 l0.length c0, .func (.func 29) #[] #[.pointer (some ⟨bx, 0, none⟩)]] w fun e w' => e = .returned (.int .i64 (findP l0 a)) ∧ Below w.heap.size w w' := by
  have hu := hr0.2.1
  go_enter Try.func28, Try.ntmps28
  go_wp2_with fail
  go_loopw [8] (fun i wr => ∃ k : Nat, k ≤ l0.length ∧ i = .int .i64 k ∧ Below w.heap.size w wr ∧ findP l0 a = firstAt (onPage a) (l0.drop k) k) (fun i _ => l0.length - (intOf i).toNat)
  case atStart => exact ⟨0, Nat.zero_le _, rfl, Below.refl _ _, rfl⟩
  case round =>
    obtain ⟨k, hk, rfl, hB, hf⟩ := hrel
    have HF := Aside0.mk hf
    have HBB := Aside0.mk hB
    have hc' := pw_cell_below hB hc
    clear hf hc
    by_cases hlt : k < l0.length
    · obtain ⟨ad, A2, c2, e, h1, h2, h3, _, _⟩ := at_T34 (Kd.C_below hr0 hB) (k : Int) (by omega) (by omega)
      subst e
      clear hB hr0
      simp only [Int.toNat_natCast] at h1 h2 h3
      have hu34 := Try.underlying34
      have D := drop_rd l0 k hlt
      generalize rd_T34 l0 (k : Int) = x at *
      have HD := Aside0.mk D
      clear D
      go_wp2_with fail
      refine (find1_calls x A2 c2 a bx _ hc').mono ?_
      rintro e w' ⟨rfl, hb⟩
      have HB2 := Aside0.mk (below_step HBB.out hb)
      clear hb
      cases hx : onPage a x
      · go_wp2
        go_roundw
        case rel => exact ⟨k + 1, by omega, by go_num, HB2.out, by rw [HF.out, HD.out, firstAt, if_neg (by simp [hx])]⟩
        case measure => simp [intOf]; omega
      · go_wp2
        go_ret
        exact ⟨ret_i64 (by rw [HF.out, HD.out, firstAt, if_pos hx]), HB2.out⟩
    · go_wp2
      go_ret
      exact ⟨ret_i64 (by rw [HF.out, List.drop_of_length_le (by omega)]; rfl), HBB.out⟩

theorem find_calls (A0 : Option Addr) (c0 : Nat) (l0 : List S34) (a : Int) (w : World) (hr0 : Kd.C k34 w A0 l0.length l0) :
    Calls Try.prog 21 #[.slice A0 l0.length c0, .int .u64 a] w fun e w' => e = .returned (.int .i64 (findP l0 a)) ∧ Below w.heap.size w w' := by
  have hC := Kd.C_alloc hr0 (.cells #[.int .u64 a] 23)
  have hcell : (w.alloc (.cells #[.int .u64 a] 23)).cell? ⟨w.heap.size, 0, none⟩ = some (.int .u64 a) := by simp
  have HR := Aside0.mk hC
  clear hC
  go_enter Try.func21, Try.ntmps21
  go_wp2_with fail
  refine (indexFunc_calls A0 c0 l0 a _ _ HR.out hcell).mono ?_
  rintro e w' ⟨rfl, hb⟩
  go_wp2
  go_ret
  exact ⟨rfl, below_step (below_alloc (Below.refl _ _) _) hb⟩


/-- two pages, the same -/
def sameP (x y : S34) : Bool := (x.f0 == y.f0) && ((x.f1 == y.f1) && ((strOfNums x.f2).toList == (strOfNums y.f2).toList))
theorem same1_f (x y : S34) : memory_Same_1.f x.f0 x.f1 x.f2 y.f0 y.f1 y.f2 = some (sameP x y) := by
  unfold memory_Same_1.f sameP bytes_Equal.f
  by_cases h : x.f0 = y.f0 <;> by_cases h' : x.f1 = y.f1 <;> simp [h, h']
/-- two rows, the same from k on -/
def sameFrom (l m : List S34) : Bool := (List.zipWith sameP l m).all id
def sameL (l m : List S34) : Bool := decide (l.length = m.length) && sameFrom l m

set_option maxRecDepth 100000 in
theorem equalFunc_calls (A0 : Option Addr) (c0 : Nat) (l0 : List S34) (A1 : Option Addr) (c1 : Nat) (l1 : List S34) (w : World) (hr0 : Kd.C k34 w A0 l0.length l0) (hr1 : Kd.C k34 w A1 l1.length l1) :
    Calls Try.prog 33 #[.slice A0 l0.length c0, .slice A1 l1.length c1, .func (.func 34) #[] #[]] w fun e w' => e = .returned (.bool (sameL l0 l1)) ∧ Below w.heap.size w w' := by
  have hu := hr0.2.1
  have hu1 := hr1.2.1
  by_cases hl : l0.length = l1.length
  · have e0 : ((l0.length : Int) != (l1.length : Int)) = false := by rw [bne_eq_false_iff_eq]; omega
    have e1 : (l0.length == l1.length) = true := by simpa using hl
    have HL := Aside0.mk hl
    clear hl
    go_enter Try.func33, Try.ntmps33
    go_wp2_with fail
    go_loopw [17] (fun i wr => ∃ k : Nat, k ≤ l0.length ∧ i = .int .i64 k ∧ Below w.heap.size w wr ∧ sameFrom l0 l1 = sameFrom (l0.drop k) (l1.drop k)) (fun i _ => l0.length - (intOf i).toNat)
    case atStart => exact ⟨0, Nat.zero_le _, rfl, Below.refl _ _, rfl⟩
    case round =>
      obtain ⟨k, hk, rfl, hB, hf⟩ := hrel
      have HF := Aside0.mk hf
      have HBB := Aside0.mk hB
      clear hf
      by_cases hlt : k < l0.length
      · obtain ⟨ad, A2, c2, e, h1, h2, h3, hc2, hk2⟩ := at_T34 (Kd.C_below hr0 hB) (k : Int) (by omega) (by omega)
        have hlt1 : k < l1.length := by have := HL.out; omega
        obtain ⟨ad1, A3, c3, e', g1, g2, g3, hc3, hk3⟩ := at_T34 (Kd.C_below hr1 hB) (k : Int) (by omega) (by omega)
        subst e
        subst e'
        clear hB hr0 hr1
        simp only [Int.toNat_natCast] at h1 h2 h3 g1 g2 g3
        have hu34 := Try.underlying34
        have D := drop_rd l0 k hlt
        have D1 := drop_rd l1 k hlt1
        generalize rd_T34 l0 (k : Int) = x at *
        generalize rd_T34 l1 (k : Int) = y at *
        have HD := Aside0.mk D
        have HD1 := Aside0.mk D1
        have HK2 := Aside0.mk hk2
        have HK3 := Aside0.mk hk3
        clear D D1 hk2 hk3
        have n1 := fun (o : Obj) => pw_cell_below (below_alloc (Below.refl _ wr) o) g1
        have n2 := fun (o : Obj) => pw_cell_below (below_alloc (Below.refl _ wr) o) g2
        have n3 := fun (o : Obj) => pw_cell_below (below_alloc (Below.refl _ wr) o) g3
        go_wp2_with fail
        refine (memory_Same_1.calls _ _ _ _ x.f2 _ _ _ _ y.f2 (sameP x y) _ (Kd.C_alloc (Kd.C_alloc HK2.out _) _) hc2 (Kd.C_alloc (Kd.C_alloc HK3.out _) _) hc3 (same1_f x y)).mono ?_
        rintro e w' ⟨rfl, hb⟩
        have HB2 := Aside0.mk (below_step (below_alloc (below_alloc HBB.out _) _) hb)
        clear hb
        cases hx : sameP x y
        · go_wp2
          go_ret
          exact ⟨ret_bool (by unfold sameL; rw [HF.out, HD.out, HD1.out]; simp [sameFrom, hx]), HB2.out⟩
        · go_wp2
          go_roundw
          case rel => exact ⟨k + 1, by omega, by go_num, HB2.out, by rw [HF.out, HD.out, HD1.out]; simp [sameFrom, hx]⟩
          case measure => simp [intOf]; omega
      · go_wp2
        go_ret
        exact ⟨ret_bool (by unfold sameL; rw [HF.out, List.drop_of_length_le (by omega), decide_eq_true HL.out]; rfl), HBB.out⟩
  · have e0 : ((l0.length : Int) != (l1.length : Int)) = true := by rw [bne_iff_ne]; omega
    have e1 : (l0.length == l1.length) = false := by simpa using hl
    have HL := Aside0.mk hl
    clear hl
    go_enter Try.func33, Try.ntmps33
    go_wp2
    go_ret
    exact ⟨ret_bool (by unfold sameL; rw [decide_eq_false HL.out]; rfl), Below.refl _ _⟩

theorem same_calls (A0 : Option Addr) (c0 : Nat) (l0 : List S34) (A1 : Option Addr) (c1 : Nat) (l1 : List S34) (w : World) (hr0 : Kd.C k34 w A0 l0.length l0) (hr1 : Kd.C k34 w A1 l1.length l1) :
    Calls Try.prog 24 #[.slice A0 l0.length c0, .slice A1 l1.length c1] w fun e w' => e = .returned (.bool (sameL l0 l1)) ∧ Below w.heap.size w w' := by
  have HR := Aside0.mk hr0
  have HR1 := Aside0.mk hr1
  clear hr0 hr1
  go_enter Try.func24, Try.ntmps24
  go_wp2_with fail
  refine (equalFunc_calls A0 c0 l0 A1 c1 l1 _ HR.out HR1.out).mono ?_
  rintro e w' ⟨rfl, hb⟩
  go_wp2
  go_ret
  exact ⟨rfl, hb⟩
end Go.Proofs.Ytkpkgpopmodagaa.B
