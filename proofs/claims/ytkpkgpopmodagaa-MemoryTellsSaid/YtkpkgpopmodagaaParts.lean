import Derived.Test.YtkpkgpopmodagaaRight
import Derived.Test.YtkpkgpopmodagaaRF
import Derived.Outline
namespace Go.Proofs.Ytkpkgpopmodagaa.B
open Go.RowKit Go.Proofs.YtkpkgpopmodagaaW.PrintWords Go.Proofs.YtkpkgpopmodagaaW.PrintLast Go.Proofs.YtkpkgpopmodagaaW.PrintMore Go.RF
set_option linter.unusedVariables false
set_option linter.unusedSimpArgs false
attribute [local go_sem] Oper.semAt_some

/-- Pages' heads are read: what stands there, their rows' addresses and capacities. -/
structure HC (w : World) (A : Option Addr) (l : List S34) (hs : Nat → Option Addr × Nat) : Prop where
  many : l.length ≤ 9223372036854775807
  cells : 0 < l.length → ∃ ad, A = some ad ∧ ∀ (j : Nat) (x : S34), l[j]? = some x →
    w.cell? (ad.add (j * 3)) = some (.int .u64 x.f0) ∧ w.cell? ⟨(ad.add (j * 3)).block, (ad.add (j * 3)).off + 1, none⟩ = some (.int .u8 x.f1) ∧
    w.cell? ⟨(ad.add (j * 3)).block, (ad.add (j * 3)).off + 2, none⟩ = some (.slice (hs j).1 x.f2.length (hs j).2)
  rows : ∀ (j : Nat) (x : S34), l[j]? = some x → x.f2.length ≤ (hs j).2 ∧ x.f2.length ≤ 9223372036854775807 ∧ (0 < x.f2.length → ∃ ad, (hs j).1 = some ad)
/-- the block of the heads -/
def headsAt (A : Option Addr) (k : Nat) : Prop := ∃ ad, A = some ad ∧ ad.block = k
theorem block_add (ad : Addr) (n : Nat) : (ad.add n).block = ad.block := by unfold Addr.add; split <;> rfl
theorem cell_block {w w' : World} {a : Addr} (h : w'.heap[a.block]? = w.heap[a.block]?) : w'.cell? a = w.cell? a := by unfold World.cell?; rw [h]
theorem HC.keep {w w' : World} {A : Option Addr} {l : List S34} {hs : Nat → Option Addr × Nat} (h : HC w A l hs) (hb : 0 < l.length → ∀ k, headsAt A k → w'.heap[k]? = w.heap[k]?) : HC w' A l hs :=
  ⟨h.many, fun hp => by
    obtain ⟨ad, e, hc⟩ := h.cells hp
    refine ⟨ad, e, fun j x hx => ?_⟩
    obtain ⟨h1, h2, h3⟩ := hc j x hx
    have hk := hb hp ad.block ⟨ad, e, rfl⟩
    exact ⟨(cell_block (by rw [block_add]; exact hk)).trans h1, (cell_block (by show w'.heap[(ad.add (j * 3)).block]? = _; rw [block_add]; exact hk)).trans h2, (cell_block (by show w'.heap[(ad.add (j * 3)).block]? = _; rw [block_add]; exact hk)).trans h3⟩, h.rows⟩
theorem HC.below {w w' : World} {A : Option Addr} {l : List S34} {hs : Nat → Option Addr × Nat} (h : HC w A l hs) (hb : Below w.heap.size w w') : HC w' A l hs :=
  ⟨h.many, fun hp => by
    obtain ⟨ad, e, hc⟩ := h.cells hp
    refine ⟨ad, e, fun j x hx => ?_⟩
    obtain ⟨h1, h2, h3⟩ := hc j x hx
    exact ⟨pw_cell_below hb h1, pw_cell_below hb h2, pw_cell_below hb h3⟩, h.rows⟩
theorem HC.lt {w : World} {A : Option Addr} {l : List S34} {hs : Nat → Option Addr × Nat} (h : HC w A l hs) (hp : 0 < l.length) : ∀ k, headsAt A k → k < w.heap.size := by
  rintro k ⟨ad, rfl, rfl⟩
  obtain ⟨ad', e, hc⟩ := h.cells hp
  injection e with e
  subst e
  have := World.block_lt_of_cell? w _ (hc 0 _ (List.getElem?_eq_getElem hp)).1
  rwa [block_add] at this
theorem HC.of {w : World} {A : Option Addr} {l : List S34} (h : Kd.C k34 w A l.length l) : ∃ hs, HC w A l hs ∧ ∀ (j : Nat) (x : S34), l[j]? = some x → Kd.C (Kd.int .u8) w (hs j).1 x.f2.length x.f2 := by
  have key : ∀ j : Nat, ∃ p : Option Addr × Nat, ∀ x, l[j]? = some x → ∃ ad, A = some ad ∧ w.cell? (ad.add (j * 3)) = some (.int .u64 x.f0) ∧ w.cell? ⟨(ad.add (j * 3)).block, (ad.add (j * 3)).off + 1, none⟩ = some (.int .u8 x.f1) ∧
      w.cell? ⟨(ad.add (j * 3)).block, (ad.add (j * 3)).off + 2, none⟩ = some (.slice p.1 x.f2.length p.2) ∧ x.f2.length ≤ p.2 ∧ Kd.C (Kd.int .u8) w p.1 x.f2.length x.f2 := by
    intro j
    by_cases hj : j < l.length
    · obtain ⟨ad, A2, c2, e, h1, h2, h3, h4, h5⟩ := at_T34 h (j : Int) (by omega) (by omega)
      refine ⟨(A2, c2), fun x hx => ⟨ad, e, ?_⟩⟩
      have hr : rd_T34 l (j : Int) = x := by simp [rd_T34, List.getD_eq_getElem?_getD, hx]
      rw [hr] at h1 h2 h3 h4 h5
      simp only [Int.toNat_natCast] at h1 h2 h3
      exact ⟨h1, h2, h3, h4, h5⟩
    · exact ⟨(none, 0), fun x hx => by rw [List.getElem?_eq_none (by omega)] at hx; cases hx⟩
  refine ⟨fun j => Classical.choose (key j), ⟨h.2.1, fun hp => ?_, fun j x hx => ?_⟩, fun j x hx => ?_⟩
  · obtain ⟨ad, e, _⟩ := h.2.2 hp
    refine ⟨ad, e, fun j x hx => ?_⟩
    obtain ⟨ad', e', h1, h2, h3, _⟩ := Classical.choose_spec (key j) x hx
    rw [e] at e'
    injection e' with e'
    subst e'
    exact ⟨h1, h2, h3⟩
  · obtain ⟨ad', e', h1, h2, h3, h4, h5⟩ := Classical.choose_spec (key j) x hx
    exact ⟨h4, h5.2.1, fun hp => by obtain ⟨ad, e, _⟩ := h5.2.2 hp; exact ⟨ad, e⟩⟩
  · obtain ⟨ad', e', h1, h2, h3, h4, h5⟩ := Classical.choose_spec (key j) x hx
    exact h5
theorem HC.at_ {w : World} {A : Option Addr} {l : List S34} {hs : Nat → Option Addr × Nat} (h : HC w A l hs) (k : Nat) (hk : k < l.length) : ∃ ad, A = some ad ∧
    w.cell? (ad.add (k * 3)) = some (.int .u64 (rd_T34 l (k : Int)).f0) ∧ w.cell? ⟨(ad.add (k * 3)).block, (ad.add (k * 3)).off + 1, none⟩ = some (.int .u8 (rd_T34 l (k : Int)).f1) ∧
    w.cell? ⟨(ad.add (k * 3)).block, (ad.add (k * 3)).off + 2, none⟩ = some (.slice (hs k).1 (rd_T34 l (k : Int)).f2.length (hs k).2) := by
  obtain ⟨ad, e, hc⟩ := h.cells (by omega)
  have hr : l[k]? = some (rd_T34 l (k : Int)) := by simp [rd_T34, List.getD_eq_getElem?_getD, List.getElem?_eq_getElem hk]
  exact ⟨ad, e, hc k _ hr⟩

set_option maxRecDepth 100000 in
theorem indexFunc_heads (A0 : Option Addr) (c0 : Nat) (l0 : List S34) (hs : Nat → Option Addr × Nat) (a : Int) (bx : Nat) (w : World) (hr0 : HC w A0 l0 hs) (hc : w.cell? ⟨bx, 0, none⟩ = some (.int .u64 a)) :
    Calls Try.prog 28 #[.slice A0 l0.length c0, .func (.func 29) #[] #[.pointer (some ⟨bx, 0, none⟩)]] w fun e w' => e = .returned (.int .i64 (findP l0 a)) ∧ Below w.heap.size w w' := by
  have hu := hr0.many
  go_enter Try.func28, Try.ntmps28
  go_wp2_with fail
  go_loopw [8] (fun i wr => ∃ k : Nat, k ≤ l0.length ∧ i = .int .i64 k ∧ Below w.heap.size w wr ∧ findP l0 a = firstAt (onPage a) (l0.drop k) k) (fun i _ => l0.length - (intOf i).toNat)
  case atStart => exact ⟨0, Nat.zero_le _, rfl, Below.refl _ _, rfl⟩
  case round =>
    obtain ⟨k, hk, rfl, hB, hf⟩ := hrel
    have HF := Aside0.mk hf
    have HBB := Aside0.mk hB
    have hc' := pw_cell_below hB hc
    clear hf hc
    by_cases hlt : k < l0.length
    · obtain ⟨ad, e, h1, h2, h3⟩ := (hr0.below hB).at_ k hlt
      subst e
      clear hB hr0
      have hu34 := Try.underlying34
      have D := drop_rd l0 k hlt
      generalize rd_T34 l0 (k : Int) = x at *
      have HD := Aside0.mk D
      clear D
      go_wp2_with fail
      refine (find1_calls x (hs k).1 (hs k).2 a bx _ hc').mono ?_
      rintro e w' ⟨rfl, hb⟩
      have HB2 := Aside0.mk (below_step HBB.out hb)
      clear hb
      cases hx : onPage a x
      · go_wp2
        go_roundw
        case rel => exact ⟨k + 1, by omega, by go_num, HB2.out, by rw [HF.out, HD.out, firstAt, if_neg (by simp [hx])]⟩
        case measure => simp [intOf]; omega
      · go_wp2
        go_ret
        exact ⟨ret_i64 (by rw [HF.out, HD.out, firstAt, if_pos hx]), HB2.out⟩
    · go_wp2
      go_ret
      exact ⟨ret_i64 (by rw [HF.out, List.drop_of_length_le (by omega)]; rfl), HBB.out⟩
theorem find_heads (A0 : Option Addr) (c0 : Nat) (l0 : List S34) (hs : Nat → Option Addr × Nat) (a : Int) (w : World) (hr0 : HC w A0 l0 hs) :
    Calls Try.prog 21 #[.slice A0 l0.length c0, .int .u64 a] w fun e w' => e = .returned (.int .i64 (findP l0 a)) ∧ Below w.heap.size w w' := by
  have hC := hr0.below (below_alloc (Below.refl _ w) (.cells #[.int .u64 a] 23))
  have hcell : (w.alloc (.cells #[.int .u64 a] 23)).cell? ⟨w.heap.size, 0, none⟩ = some (.int .u64 a) := by simp
  have HR := Aside0.mk hC
  clear hC hr0
  go_enter Try.func21, Try.ntmps21
  go_wp2_with fail
  refine (indexFunc_heads A0 c0 l0 hs a _ _ HR.out hcell).mono ?_
  rintro e w' ⟨rfl, hb⟩
  go_wp2
  go_ret
  exact ⟨rfl, below_step (below_alloc (Below.refl _ _) _) hb⟩
end Go.Proofs.Ytkpkgpopmodagaa.B
