/- What operand.Take tells, as numbers. -/
import Derived.Test.YtppeidopijnnlaaDoorMore
import Derived.Test.YtppeidopijnnlaaDoorBx2
import Derived.BigGuardPart
namespace Go.Proofs.YtppeidopijnnlaaDoor.B
open Go.RowKit Go.Proofs.YtppeidopijnnlaaDoorW.PrintWords Go.Proofs.YtppeidopijnnlaaDoorW.PrintMore Go.RF
set_option linter.unusedVariables false
set_option linter.unusedSimpArgs false
attribute [local go_sem] Oper.semAt_some
abbrev TakeT := Int × Int × Int × Int × Int × Int × Int × Bool × Int × Int × Int
def failT : TakeT := (0, 0, 0, 0, 0, 0, 0, false, 0, 0, 80)
/-- one more byte of a displacement, from the last one on -/
def dispStep (wd : Int) (d : Int) (x : Nat × Int) : Int := if (x.1 : Int) = wd - 1 then wrap64 (IntKind.i8.wrap x.2) else Go.bits .or .i64 (wrap64 (d * 256)) x.2
def dispOf (wd : Int) (xs : List Int) : Int := (backL xs xs.length).foldl (dispStep wd) 0
/-- behind the switch -/
def takeRest (l : List Int) (rex used wd k R base idx sc : Int) (rip : Bool) : TakeT :=
  if (l.length : Int) < used + wd then failT
  else (l.getD 0 0 / 8 % 8 + mo (rex / 4), k, R, base, idx, sc, dispOf wd ((l.drop used.toNat).take wd.toNat), rip, 0, used + wd, 0)
def takeF (l : List Int) (rex : Int) : TakeT :=
  if l.length = 0 then failT
  else
    let b0 := l.getD 0 0
    let r := b0 % 8
    let wd := wid (b0 / 64)
    if b0 / 64 = 3 then takeRest l rex 1 wd 1 (r + mo rex) (-1) (-1) 0 false
    else if r = 4 then
      if l.length < 2 then failT
      else
        let b1 := l.getD 1 0
        let x := b1 / 8 % 8 + mo (rex / 2)
        let idx := if x = 4 then -1 else x
        let sc := if x = 4 then 1 else 2 ^ (b1 / 64).toNat
        if b1 % 8 = 5 ∧ b0 / 64 = 0 then takeRest l rex 2 4 2 0 (-1) idx sc false
        else takeRest l rex 2 wd 2 0 (b1 % 8 + mo rex) idx sc false
    else if r = 5 ∧ b0 / 64 = 0 then takeRest l rex 1 4 2 0 (-1) (-1) 1 true
    else takeRest l rex 1 wd 2 0 (r + mo rex) (-1) 1 false
theorem rows8 {W : World} {b : Nat} {v0 v1 v2 v3 v4 v5 v6 v7 : Value} {t : Nat} (h : W.heap[b]? = some (.cells #[v0, v1, v2, v3, v4, v5, v6, v7] t (0, 0))) :
    (W.cell? ⟨b, 0, none⟩ = some v0 ∧ W.cell? ⟨b, 1, none⟩ = some v1 ∧ W.cell? ⟨b, 2, none⟩ = some v2 ∧ W.cell? ⟨b, 3, none⟩ = some v3 ∧ W.cell? ⟨b, 4, none⟩ = some v4 ∧ W.cell? ⟨b, 5, none⟩ = some v5 ∧ W.cell? ⟨b, 6, none⟩ = some v6 ∧ W.cell? ⟨b, 7, none⟩ = some v7)
    ∧ (W.frozen? ⟨b, 0, none⟩ = false ∧ W.frozen? ⟨b, 1, none⟩ = false ∧ W.frozen? ⟨b, 2, none⟩ = false ∧ W.frozen? ⟨b, 3, none⟩ = false ∧ W.frozen? ⟨b, 4, none⟩ = false ∧ W.frozen? ⟨b, 5, none⟩ = false ∧ W.frozen? ⟨b, 6, none⟩ = false ∧ W.frozen? ⟨b, 7, none⟩ = false) :=
  ⟨⟨by rw [blk_cell h]; rfl, by rw [blk_cell h]; rfl, by rw [blk_cell h]; rfl, by rw [blk_cell h]; rfl, by rw [blk_cell h]; rfl, by rw [blk_cell h]; rfl, by rw [blk_cell h]; rfl, by rw [blk_cell h]; rfl⟩,
   blk_frozen h 0, blk_frozen h 1, blk_frozen h 2, blk_frozen h 3, blk_frozen h 4, blk_frozen h 5, blk_frozen h 6, blk_frozen h 7⟩
theorem set8 {W : World} {b : Nat} {v0 v1 v2 v3 v4 v5 v6 v7 : Value} {t : Nat} (h : W.heap[b]? = some (.cells #[v0, v1, v2, v3, v4, v5, v6, v7] t (0, 0))) (u0 u1 u2 u3 u4 u5 u6 u7 : Value) :
    ((((((((W.setCell ⟨b, 0, none⟩ u0).setCell ⟨b, 1, none⟩ u1).setCell ⟨b, 2, none⟩ u2).setCell ⟨b, 3, none⟩ u3).setCell ⟨b, 4, none⟩ u4).setCell ⟨b, 5, none⟩ u5).setCell ⟨b, 6, none⟩ u6).setCell ⟨b, 7, none⟩ u7).heap[b]? = some (.cells #[u0, u1, u2, u3, u4, u5, u6, u7] t (0, 0))
    ∧ Keeps (fun k => k = b) W ((((((((W.setCell ⟨b, 0, none⟩ u0).setCell ⟨b, 1, none⟩ u1).setCell ⟨b, 2, none⟩ u2).setCell ⟨b, 3, none⟩ u3).setCell ⟨b, 4, none⟩ u4).setCell ⟨b, 5, none⟩ u5).setCell ⟨b, 6, none⟩ u6).setCell ⟨b, 7, none⟩ u7) := by
  constructor
  · have e := blk_set (blk_set (blk_set (blk_set (blk_set (blk_set (blk_set (blk_set h 0 u0) 1 u1) 2 u2) 3 u3) 4 u4) 5 u5) 6 u6) 7 u7
    simp only [List.setIfInBounds_toArray, List.set_cons_zero, List.set_cons_succ] at e
    exact e
  · repeat (refine Keeps.setCell ?_ _ _ rfl)
    exact Keeps.refl _ _
theorem set_2 {W : World} {b : Nat} {v0 v1 v2 v3 v4 v5 v6 v7 : Value} {t : Nat} (h : W.heap[b]? = some (.cells #[v0, v1, v2, v3, v4, v5, v6, v7] t (0, 0))) (u2 : Value) :
    (W.setCell ⟨b, 2, none⟩ u2).heap[b]? = some (.cells #[v0, v1, u2, v3, v4, v5, v6, v7] t (0, 0)) := by
  have e := (blk_set h 2 u2)
  simp only [List.setIfInBounds_toArray, List.set_cons_zero, List.set_cons_succ] at e
  exact e
theorem set_34 {W : World} {b : Nat} {v0 v1 v2 v3 v4 v5 v6 v7 : Value} {t : Nat} (h : W.heap[b]? = some (.cells #[v0, v1, v2, v3, v4, v5, v6, v7] t (0, 0))) (u3 u4 : Value) :
    ((W.setCell ⟨b, 3, none⟩ u3).setCell ⟨b, 4, none⟩ u4).heap[b]? = some (.cells #[v0, v1, v2, u3, u4, v5, v6, v7] t (0, 0)) := by
  have e := (blk_set (blk_set h 3 u3) 4 u4)
  simp only [List.setIfInBounds_toArray, List.set_cons_zero, List.set_cons_succ] at e
  exact e
theorem set_26 {W : World} {b : Nat} {v0 v1 v2 v3 v4 v5 v6 v7 : Value} {t : Nat} (h : W.heap[b]? = some (.cells #[v0, v1, v2, v3, v4, v5, v6, v7] t (0, 0))) (u2 u6 : Value) :
    ((W.setCell ⟨b, 2, none⟩ u2).setCell ⟨b, 6, none⟩ u6).heap[b]? = some (.cells #[v0, v1, u2, v3, v4, v5, u6, v7] t (0, 0)) := by
  have e := (blk_set (blk_set h 2 u2) 6 u6)
  simp only [List.setIfInBounds_toArray, List.set_cons_zero, List.set_cons_succ] at e
  exact e
theorem set_5 {W : World} {b : Nat} {v0 v1 v2 v3 v4 v5 v6 v7 : Value} {t : Nat} (h : W.heap[b]? = some (.cells #[v0, v1, v2, v3, v4, v5, v6, v7] t (0, 0))) (u5 : Value) :
    (W.setCell ⟨b, 5, none⟩ u5).heap[b]? = some (.cells #[v0, v1, v2, v3, v4, u5, v6, v7] t (0, 0)) := by
  have e := (blk_set h 5 u5)
  simp only [List.setIfInBounds_toArray, List.set_cons_zero, List.set_cons_succ] at e
  exact e
theorem cell_set8 {W : World} {a : Addr} {b : Nat} {v : Value} (h : W.cell? a = some v) (hb : a.block ≠ b) (u0 u1 u2 u3 u4 u5 u6 u7 : Value) :
    ((((((((W.setCell ⟨b, 0, none⟩ u0).setCell ⟨b, 1, none⟩ u1).setCell ⟨b, 2, none⟩ u2).setCell ⟨b, 3, none⟩ u3).setCell ⟨b, 4, none⟩ u4).setCell ⟨b, 5, none⟩ u5).setCell ⟨b, 6, none⟩ u6).setCell ⟨b, 7, none⟩ u7).drew.cell? a = some v := by
  refine Keeps.cell (S := fun k => k = b) (W := W) ?_ h hb
  refine Keeps.drew ?_
  repeat (refine Keeps.setCell ?_ _ _ rfl)
  exact Keeps.refl _ _
theorem and7_cases : ∀ q : Fin 256, Go.bits .and .u8 (q.val : Int) 7 = (q.val : Int) % 8 := by decide +kernel
theorem and7 (q : Int) (h0 : 0 ≤ q) (h1 : q < 256) : Go.bits .and .u8 q 7 = q % 8 := by
  have h := and7_cases ⟨q.toNat, by omega⟩
  have e : (((⟨q.toNat, by omega⟩ : Fin 256).val : Nat) : Int) = q := by show ((q.toNat : Nat) : Int) = q; omega
  rw [e] at h
  exact h
theorem wrap_small (x : Int) (h0 : 0 ≤ x) (h1 : x < 1000) : IntKind.i64.wrap x = x := by
  rw [IntKind.wrap_i64]
  omega
theorem sib_base (b m : Int) (h0 : 0 ≤ b) (h1 : b < 256) (h2 : 0 ≤ m) (h3 : m ≤ 8) : IntKind.i64.wrap (IntKind.i64.wrap (Go.bits .and .u8 b 7) + m) = b % 8 + m := by
  have e1 := wrap_small (b % 8) (by omega) (by omega)
  have e2 := wrap_small (b % 8 + m) (by omega) (by omega)
  rw [and7 b h0 h1, e1, e2]
theorem sib_base64 (b m : Int) (h0 : 0 ≤ b) (h1 : b < 256) (h2 : 0 ≤ m) (h3 : m ≤ 8) : wrap64 (b % 8 + m) = b % 8 + m := by
  unfold wrap64
  omega
theorem mem_backL (xs : List Int) (x : Nat × Int) : ∀ n, x ∈ backL xs n → ∃ m, m < n ∧ x = (m, xs.getD m 0)
  | 0, h => by simp [backL] at h
  | n + 1, h => by
    unfold backL at h
    rcases List.mem_cons.1 h with h | h
    · exact ⟨n, Nat.lt_succ_self _, h⟩
    · obtain ⟨m, hm, e⟩ := mem_backL xs x n h
      exact ⟨m, by omega, e⟩
theorem add_add (ad : Addr) (m n : Nat) : (ad.add m).add n = ad.add (m + n) := by
  unfold Addr.add
  by_cases hm : m = 0
  · subst hm
    simp
  · by_cases hn : n = 0
    · subst hn
      simp [hm]
    · rw [if_neg hm, if_neg hn, if_neg (by omega)]
      simp [Nat.add_assoc]
theorem getD_part (l : List Int) (u n j : Nat) (hj : j < ((l.drop u).take n).length) : ((l.drop u).take n).getD j 0 = l.getD (u + j) 0 := by
  rw [List.length_take, List.length_drop] at hj
  rw [List.getD_eq_getElem?_getD, List.getD_eq_getElem?_getD, List.getElem?_take, if_pos (by omega), List.getElem?_drop]
theorem getD_range (l : List Int) (hl : ∀ y ∈ l, 0 ≤ y ∧ y < 256) (j : Nat) : 0 ≤ l.getD j 0 ∧ l.getD j 0 < 256 := by
  rw [List.getD_eq_getElem?_getD]
  cases h : l[j]? with
  | none => exact ⟨by decide, by decide⟩
  | some v => exact hl v (List.mem_of_getElem? h)
end Go.Proofs.YtppeidopijnnlaaDoor.B
