import Derived.Test.YtkpkgpopmodagaaOwnA
namespace Go.Proofs.Ytkpkgpopmodagaa.B
open Go.RowKit Go.Proofs.YtkpkgpopmodagaaW.PrintWords Go.Proofs.YtkpkgpopmodagaaW.PrintLast Go.Proofs.YtkpkgpopmodagaaW.PrintMore Go.RF
set_option linter.unusedVariables false
set_option linter.unusedSimpArgs false

/-- The cells of pages, their rows' addresses and capacities told by hs. -/
def heads (hs : Nat → Option Addr × Nat) : List S34 → Nat → List Value
  | [], _ => []
  | x :: r, k => .int .u64 x.f0 :: .int .u8 x.f1 :: .slice (hs k).1 x.f2.length (hs k).2 :: heads hs r (k + 1)
theorem heads_length (hs : Nat → Option Addr × Nat) : ∀ (l : List S34) (k : Nat), (heads hs l k).length = l.length * 3
  | [], _ => rfl
  | x :: r, k => by simp [heads, heads_length hs r (k + 1)]; omega
theorem heads_get (hs : Nat → Option Addr × Nat) : ∀ (l : List S34) (k j : Nat) (x : S34), l[j]? = some x →
    (heads hs l k)[j * 3]? = some (.int .u64 x.f0) ∧ (heads hs l k)[j * 3 + 1]? = some (.int .u8 x.f1) ∧ (heads hs l k)[j * 3 + 2]? = some (.slice (hs (k + j)).1 x.f2.length (hs (k + j)).2)
  | [], _, _, _, h => by simp at h
  | y :: r, k, 0, x, h => by
    simp at h
    subst h
    simp [heads]
  | y :: r, k, j + 1, x, h => by
    have := heads_get hs r (k + 1) j x (by simpa using h)
    simp only [heads, show (j + 1) * 3 = j * 3 + 1 + 1 + 1 by omega, List.getElem?_cons_succ, show j * 3 + 1 + 1 + 1 + 1 = j * 3 + 1 + 1 + 1 + 1 from rfl, show k + (j + 1) = k + 1 + j by omega]
    exact this
def upd (hs : Nat → Option Addr × Nat) (i : Nat) (p : Option Addr × Nat) : Nat → Option Addr × Nat := fun j => if j = i then p else hs j
theorem heads_upd_ahead (hs : Nat → Option Addr × Nat) (i : Nat) (p : Option Addr × Nat) : ∀ (l : List S34) (k : Nat), i < k → heads (upd hs i p) l k = heads hs l k
  | [], _, _ => rfl
  | x :: r, k, h => by
    have e : upd hs i p k = hs k := by unfold upd; rw [if_neg (by omega)]
    simp only [heads, e, heads_upd_ahead hs i p r (k + 1) (by omega)]
theorem heads_set (hs : Nat → Option Addr × Nat) (p : Option Addr × Nat) : ∀ (l : List S34) (k j : Nat) (x : S34), l[j]? = some x →
    (((heads hs l k).set (j * 3) (.int .u64 x.f0)).set (j * 3 + 1) (.int .u8 x.f1)).set (j * 3 + 2) (.slice p.1 x.f2.length p.2) = heads (upd hs (k + j) p) l k
  | [], _, _, _, h => by simp at h
  | y :: r, k, 0, x, h => by
    simp at h
    subst h
    have e : upd hs k p k = p := by unfold upd; rw [if_pos rfl]
    simp only [heads, Nat.zero_mul, Nat.zero_add, Nat.add_zero, List.set_cons_zero, List.set_cons_succ, e, heads_upd_ahead hs k p r (k + 1) (by omega)]
  | y :: r, k, j + 1, x, h => by
    have := heads_set hs p r (k + 1) j x (by simpa using h)
    have e : upd hs (k + (j + 1)) p k = hs k := by unfold upd; rw [if_neg (by omega)]
    simp only [heads, show (j + 1) * 3 = j * 3 + 1 + 1 + 1 by omega, List.set_cons_succ, e]
    rw [show k + (j + 1) = k + 1 + j by omega, ← this]
theorem add_cell (ad : Addr) (n : Nat) (h : 0 < n) : ad.add n = ⟨ad.block, ad.off + n, none⟩ := by unfold Addr.add; rw [if_neg (by omega)]
theorem HC.heads {w : World} {ad : Addr} {l : List S34} {hs : Nat → Option Addr × Nat} (h : HC w (some ad) l hs) : ∀ (j : Nat) (u : Value), (heads hs l 0)[j]? = some u → w.cell? (ad.add j) = some u := by
  intro j u hu
  have hj := (List.getElem?_eq_some_iff.1 hu).1
  rw [heads_length] at hj
  obtain ⟨q, r, rfl, hr⟩ : ∃ q r, j = q * 3 + r ∧ r < 3 := ⟨j / 3, j % 3, by omega, by omega⟩
  obtain ⟨x, hx⟩ : ∃ x, l[q]? = some x := ⟨_, List.getElem?_eq_getElem (by omega)⟩
  obtain ⟨ad', e, hc⟩ := h.cells (by omega)
  injection e with e
  subst e
  obtain ⟨h1, h2, h3⟩ := hc q x hx
  obtain ⟨g1, g2, g3⟩ := heads_get hs l 0 q x hx
  rcases (by omega : r = 0 ∨ r = 1 ∨ r = 2) with rfl | rfl | rfl
  · rw [Nat.add_zero] at hu ⊢; rw [g1] at hu; injection hu with hu; subst hu; exact h1
  · rw [g2] at hu; injection hu with hu; subst hu; rw [← addr_add_add, add_cell _ 1 (by omega)]; exact h2
  · rw [g3] at hu; injection hu with hu; subst hu; rw [← addr_add_add, add_cell _ 2 (by omega)]; simpa using h3

set_option maxRecDepth 100000 in
theorem clone_pages (A : Option Addr) (c : Nat) (l : List S34) (hs : Nat → Option Addr × Nat) (w : World) (h : HC w A l hs) (hm : l.length ≤ 1000000) :
    Calls Try.prog 37 #[.slice A l.length c] w fun e w' => ∃ v, e = .returned v ∧ w'.ownsRow w.heap.size 34 3 v l.length (heads hs l 0) ∧ Below w.heap.size w w' := by
  cases A with
  | none =>
    have h0 : l.length = 0 := by
      rcases Nat.eq_zero_or_pos l.length with h0 | h0
      · exact h0
      · obtain ⟨ad, e, _⟩ := h.cells h0
        cases e
    have hx : l = [] := List.eq_nil_of_length_eq_zero h0
    subst hx
    have hq := fun (w : World) (n c : Nat) => Lib.run_eql_slice_nil (P := Try.prog) w 22 34 none n c 0 0 Try.underlying22
    clear h
    go_enter Try.func37, Try.ntmps37
    go_wp2
    go_ret
    exact ⟨_, rfl, own_nil _ _ _ _, Below.refl _ _⟩
  | some ad =>
    have hq := fun (w : World) (n c : Nat) => Lib.run_eql_slice_nil (P := Try.prog) w 22 34 (some ad) n c 0 0 Try.underlying22
    have hown : (w.alloc (.cells #[] 34)).ownsRow w.heap.size 34 3 (.slice (some ⟨w.heap.size, 0, none⟩) 0 0) 0 [] :=
      ⟨rfl, .inr ⟨w.heap.size, 0, #[], rfl, Nat.le_refl _, World.alloc_heap_new w _, Nat.le_refl _, by unfold maxLen; omega, rfl, rfl⟩⟩
    have hcells : ∀ (j : Nat) (u : Value), (heads hs l 0)[j]? = some u → (w.alloc (.cells #[] 34)).cell? (ad.add j) = some u := fun j u hu => pw_cell_below (below_alloc (Below.refl _ w) _) (h.heads j u hu)
    have hone : ∀ u ∈ heads hs l 0, u.oneCell' = true := by
      intro u hu
      obtain ⟨j, hj, e⟩ := List.mem_iff_getElem.1 hu
      rw [heads_length] at hj
      obtain ⟨g1, g2, g3⟩ := heads_get hs l 0 (j / 3) _ (List.getElem?_eq_getElem (show j / 3 < l.length by omega))
      have e' : (heads hs l 0)[j]? = some u := by rw [List.getElem?_eq_getElem (by rw [heads_length]; omega), e]
      rcases (by omega : j = j / 3 * 3 ∨ j = j / 3 * 3 + 1 ∨ j = j / 3 * 3 + 2) with q | q | q
      · rw [q, g1] at e'; injection e' with e'; subst e'; rfl
      · rw [q, g2] at e'; injection e' with e'; subst e'; rfl
      · rw [q, g3] at e'; injection e' with e'; subst e'; rfl
    obtain ⟨i0, hi, hzz⟩ := Option.map_eq_some_iff.1 info34
    simp only [Prod.mk.injEq] at hzz
    obtain ⟨hz0, hz1, hz2⟩ := hzz
    clear h
    go_enter Try.func37, Try.ntmps37
    go_wp2_with (at_builtin; refine wpList_append_own _ rfl _ _ 22 rfl w.heap.size 34 i0 (.agg #[.int .u64 0, .int .u8 0, .slice none 0 0]) 3 40 Try.underlying22 hi hz0 hz1 hz2 rfl (by decide) (.slice (some ⟨w.heap.size, 0, none⟩) 0 0) 0 [] rfl hown ad l.length c (heads hs l 0) rfl ?c1 hcells hone ?c3 ?c4 ?c5 ?_)
    case c1 => exact heads_length hs l 0
    case c3 => unfold maxLen; omega
    case c4 => omega
    case c5 => simp
    intro v' W' hown' hgrow _
    replace hown' : W'.ownsRow w.heap.size 34 3 v' l.length (heads hs l 0) := by simpa using hown'
    obtain ⟨A', c', rfl⟩ := own_slice hown'
    have HO := Aside0.mk hown'
    have HG := Aside0.mk hgrow
    clear hown' hgrow hcells hown hq hone
    go_wp2
    go_ret
    exact ⟨_, rfl, HO.out, (below_alloc (Below.refl _ _) _).grown HG.out (by simp) (fun k e => by simp [Value.ownBlock] at e; omega)⟩
end Go.Proofs.Ytkpkgpopmodagaa.B
