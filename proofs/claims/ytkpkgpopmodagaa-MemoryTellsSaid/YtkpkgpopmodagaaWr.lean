import Derived.Test.YtkpkgpopmodagaaRef2
namespace Go.Proofs.Ytkpkgpopmodagaa.B
open Go.RowKit Go.Proofs.YtkpkgpopmodagaaW.PrintWords Go.Proofs.YtkpkgpopmodagaaW.PrintLast Go.Proofs.YtkpkgpopmodagaaW.PrintMore Go.RF
set_option linter.unusedVariables false
set_option linter.unusedSimpArgs false
theorem byteAt_cell (l : List S34) (perm x : Int) : byteAt l perm x = if findP l x < 0 then none else if Go.bits .and .u8 (rd_T34 l (findP l x)).f1 perm = 0 then none else some (cellAt l x) := rfl
theorem find_nat (l : List S34) (x : Int) : findP l x < 0 ∨ ∃ j : Nat, j < l.length ∧ findP l x = (j : Int) := by
  rcases findP_range l x with h | ⟨j, h1, h2, _⟩
  · exact .inl (by omega)
  · exact .inr ⟨j, h1, h2⟩
theorem byteAt_alike {l m : List S34} (h : Alike l m) (perm x : Int) : byteAt m perm x = if findP l x < 0 then none else if Go.bits .and .u8 (rd_T34 l (findP l x)).f1 perm = 0 then none else some (cellAt m x) := by
  rw [byteAt_cell, h.find]
  rcases find_nat l x with h1 | ⟨j, hj, h1⟩
  · rw [if_pos h1, if_pos h1]
  · rw [h1, (h.at_ j hj).2.1]
theorem byteAt_none_alike {l m : List S34} (h : Alike l m) (perm x : Int) : byteAt m perm x = none ↔ byteAt l perm x = none := by
  rw [byteAt_alike h, byteAt_cell]
  split
  · simp
  · split <;> simp
theorem bytesAt_len_alike {l m : List S34} (h : Alike l m) (perm : Int) : ∀ (n : Nat) (a : Int), (bytesAt m perm n a).length = (bytesAt l perm n a).length
  | 0, _ => rfl
  | n + 1, a => by
    have hn := byteAt_none_alike h perm a
    cases hb : byteAt l perm a with
    | none => rw [bytesAt_none n hb, bytesAt_none n (hn.2 hb)]
    | some u =>
      cases hb' : byteAt m perm a with
      | none => rw [hn.1 hb'] at hb; cases hb
      | some u' =>
        rw [bytesAt_some n hb, bytesAt_some n hb', List.length_cons, List.length_cons, bytesAt_len_alike h perm n _]
theorem bytesAt_congr {l m : List S34} {perm : Int} : ∀ (n : Nat) (a : Int), InR a → (∀ x, InR x → byteAt m perm x = byteAt l perm x) → bytesAt m perm n a = bytesAt l perm n a
  | 0, _, _, _ => rfl
  | n + 1, a, ha, h => by
    cases hb : byteAt l perm a with
    | none => rw [bytesAt_none n hb, bytesAt_none n ((h a ha).trans hb)]
    | some u => rw [bytesAt_some n hb, bytesAt_some n ((h a ha).trans hb), bytesAt_congr n _ (InR.w _) h]
/-- the whole of a row of addresses may be reached -/
theorem bytesAt_full {l : List S34} {perm : Int} {n : Nat} {a : Int} (ha : InR a) (h : (bytesAt l perm n a).length = n) (x : Int) (hx : InR x) (hw : IntKind.u64.wrap (x - a) < (n : Int)) : byteAt l perm x ≠ none := by
  have h0 := InR.w (x - a)
  unfold InR at h0 hx ha
  obtain ⟨i, hi⟩ : ∃ i : Nat, IntKind.u64.wrap (x - a) = (i : Int) := ⟨(IntKind.u64.wrap (x - a)).toNat, by omega⟩
  have hil : i < (bytesAt l perm n a).length := by omega
  have := bytesAt_get l perm n a i _ ha (List.getElem?_eq_getElem hil)
  have e : IntKind.u64.wrap (a + (i : Nat)) = x := by rw [u64w] at hi ⊢; omega
  rw [e] at this
  rw [this]
  simp
theorem write_no {l : List S34} (hs : Small l) {a : Int} (ha : InR a) {b : List Int} (hb : b.length ≤ 4096) (h : (bytesAt l 2 b.length a).length ≠ b.length) : writeE l a b = 121 ∧ writeP l a b = l := by
  have hg := gatherP_bytes l a b.length 2 hs ha
  rw [Int.toNat_natCast] at hg
  have hle := bytesAt_le l 2 b.length a
  unfold writeE writeP
  rw [if_neg (show ¬ b.length > 4096 by omega), if_neg (show ¬ b.length > 4096 by omega), hg, if_pos (show (bytesAt l 2 b.length a).length < b.length by omega), if_pos (show (bytesAt l 2 b.length a).length < b.length by omega)]
  exact ⟨rfl, rfl⟩
theorem write_ok {l : List S34} (hs : Small l) {a : Int} (ha : InR a) {b : List Int} (hb : b.length ≤ 4096) (h : (bytesAt l 2 b.length a).length = b.length) :
    writeE l a b = 0 ∧ Alike l (writeP l a b) ∧ ∀ x, InR x → 0 ≤ findP l x → cellAt (writeP l a b) x = if IntKind.u64.wrap (x - a) < (b.length : Int) then b.getD (IntKind.u64.wrap (x - a)).toNat 0 else cellAt l x := by
  have hg := gatherP_bytes l a b.length 2 hs ha
  rw [Int.toNat_natCast] at hg
  have h1 := gather_length l (chunksP l a b.length 2)
  have h2 := chunks_sum l 2 (mostP l b.length) (b.length : Int).toNat a b.length
  have hc : countP (chunksP l a b.length 2) = b.length := by
    rw [hg] at h1
    unfold countP
    unfold chunksP at h1 ⊢
    omega
  unfold writeE writeP
  rw [if_neg (show ¬ b.length > 4096 by omega), if_neg (show ¬ b.length > 4096 by omega), hg, if_neg (show ¬ (bytesAt l 2 b.length a).length < b.length by omega), if_neg (show ¬ (bytesAt l 2 b.length a).length < b.length by omega)]
  refine ⟨rfl, (Alike.refl l).putAll _ _, fun x hx hf => ?_⟩
  have hc' : countP (chunks l 2 (mostP l b.length) (b.length : Int).toNat a b.length) = b.length := hc
  have := put_cells l 2 (mostP l b.length) hs (steady l _ hs) (b.length : Int).toNat a b.length l b ha (by omega) (Alike.refl l) (by rw [hc']; exact Nat.le_refl _) x hx hf
  rw [hc'] at this
  exact this
/-- A write, whatever comes of it. -/
theorem write_any {l m : List S34} (hal : Alike l m) (hs : Small l) {a : Int} (ha : InR a) {b : List Int} (hb : b.length ≤ 4096) :
    writeE m a b = (if (bytesAt l 2 b.length a).length = b.length then 0 else 121) ∧ Alike l (writeP m a b) ∧ ∀ x, InR x → 0 ≤ findP l x →
      cellAt (writeP m a b) x = if (bytesAt l 2 b.length a).length = b.length ∧ IntKind.u64.wrap (x - a) < (b.length : Int) then b.getD (IntKind.u64.wrap (x - a)).toNat 0 else cellAt m x := by
  have hsm := hal.small hs
  by_cases h : (bytesAt l 2 b.length a).length = b.length
  · obtain ⟨h1, h2, h3⟩ := write_ok hsm ha hb (by rw [bytesAt_len_alike hal]; exact h)
    refine ⟨by rw [h1, if_pos h], hal.trans h2, fun x hx hf => ?_⟩
    rw [h3 x hx (by rw [hal.find]; exact hf)]
    by_cases hw : IntKind.u64.wrap (x - a) < (b.length : Int)
    · rw [if_pos hw, if_pos ⟨h, hw⟩]
    · rw [if_neg hw, if_neg (fun hh => hw hh.2)]
  · obtain ⟨h1, h2⟩ := write_no hsm ha hb (by rw [bytesAt_len_alike hal]; exact h)
    refine ⟨by rw [h1, if_neg h], by rw [h2]; exact hal, fun x hx hf => ?_⟩
    rw [h2, if_neg (fun hh => h hh.1)]
theorem PagesR.alike {l m : List S34} (h : Alike l m) (hp : PagesR l) : PagesR m := by
  refine ⟨fun j hj => ?_, by have := h.1; have := hp.2; omega⟩
  have hl : j < l.length := by have := h.1; omega
  obtain ⟨h1, h2, h3, h4, h5⟩ := hp.1 j hl
  obtain ⟨a1, a2, a3⟩ := h.at_ j hl
  obtain ⟨b1, _, _⟩ := h.at_ (j - 1) (by omega)
  unfold PageR
  rw [a1, a2, a3, b1]
  exact ⟨h1, h2, h3, h4, h5⟩
theorem PagesR.lt {l : List S34} (hp : PagesR l) : ∀ (j i : Nat), i < j → j < l.length → (rd_T34 l (i : Int)).f0 < (rd_T34 l (j : Int)).f0
  | 0, _, h, _ => by omega
  | j + 1, i, h, hj => by
    have h1 := (hp.1 (j + 1) hj).2.2.2.2 (by omega)
    rw [show j + 1 - 1 = j by omega] at h1
    by_cases e : i = j
    · subst e; exact h1
    · have := hp.lt j i (by omega) (by omega)
      omega
theorem PagesR.spot {l : List S34} (hp : PagesR l) (hs : Small l) (j : Nat) (hj : j < l.length) (i : Nat) (hi : i < 4096) : InR ((rd_T34 l (j : Int)).f0 + i) ∧ findP l ((rd_T34 l (j : Int)).f0 + i) = (j : Int) := by
  obtain ⟨h1, h2, _⟩ := hp.1 j hj
  have h3 := (hs _ (rd_mem hj)).1
  unfold InR at h3
  rw [Int.tmod_eq_emod_of_nonneg h3.1] at h1
  have hA : InR ((rd_T34 l (j : Int)).f0 + i) := by unfold InR; omega
  refine ⟨hA, find_eq hs hA hj ⟨by omega, by omega⟩ (fun i' hi' hc => ?_)⟩
  obtain ⟨g1, g2, _⟩ := hp.1 i' (by omega)
  have g3 := (hs _ (rd_mem (show i' < l.length by omega))).1
  unfold InR at g3
  rw [Int.tmod_eq_emod_of_nonneg g3.1] at g1
  have := hp.lt j i' hi' hj
  omega
theorem pages_ext {l m m' : List S34} (hp : PagesR l) (hs : Small l) (h : Alike l m) (h' : Alike l m') (hc : ∀ x, InR x → 0 ≤ findP l x → cellAt m x = cellAt m' x) : m = m' := by
  apply List.ext_getElem (by have := h.1; have := h'.1; omega)
  intro j hj hj'
  have hl : j < l.length := by have := h.1; omega
  have e1 := rd_get hj
  have e2 := rd_get hj'
  rw [List.getElem?_eq_getElem hj] at e1
  rw [List.getElem?_eq_getElem hj'] at e2
  injection e1 with e1
  injection e2 with e2
  rw [e1, e2]
  obtain ⟨a1, a2, a3⟩ := h.at_ j hl
  obtain ⟨b1, b2, b3⟩ := h'.at_ j hl
  obtain ⟨p1, p2, _⟩ := hp.1 j hl
  have hf2 : (rd_T34 m (j : Int)).f2 = (rd_T34 m' (j : Int)).f2 := by
    apply List.ext_getElem (by omega)
    intro i hi hi'
    obtain ⟨hA, hF⟩ := hp.spot hs j hl i (by omega)
    have hx := hc _ hA (by omega)
    have hw : IntKind.u64.wrap ((rd_T34 l (j : Int)).f0 + (i : Int) - (rd_T34 l (j : Int)).f0) = (i : Int) := by rw [u64w]; omega
    unfold cellAt at hx
    rw [h.find, h'.find, hF, a1, b1, hw, Int.toNat_natCast] at hx
    simp only [List.getD_eq_getElem?_getD, List.getElem?_eq_getElem hi, List.getElem?_eq_getElem hi'] at hx
    exact hx
  cases hm : rd_T34 m (j : Int) with
  | mk f0 f1 f2 =>
    cases hm' : rd_T34 m' (j : Int) with
    | mk g0 g1 g2 =>
      rw [hm] at a1 a2 hf2
      rw [hm'] at b1 b2 hf2
      simp only at a1 a2 b1 b2 hf2
      rw [a1, a2, b1, b2, hf2]
theorem write_some {l : List S34} (hl : l.length ≤ 20) (hs : Small l) (a : Int) (b : List Int) : memory_Write.f l a b = some (writeP l a b, writeE l a b) := by
  unfold memory_Write.f G.Write
  rw [if_pos ⟨by omega, fun x hx => by have := (hs x hx).2; omega⟩]
theorem read_some (l : List S34) (a n : Int) : memory_Read.f l a n = some (readP l a n, readE l a n) := rfl
end Go.Proofs.Ytkpkgpopmodagaa.B
