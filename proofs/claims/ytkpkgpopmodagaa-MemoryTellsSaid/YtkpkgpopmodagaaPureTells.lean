import Derived.Test.YtkpkgpopmodagaaBx12
import Derived.Test.YtkpkgpopmodagaaTl
namespace Go.Proofs.Ytkpkgpopmodagaa.B
open Go.RowKit Go.Proofs.YtkpkgpopmodagaaW.PrintWords Go.Proofs.YtkpkgpopmodagaaW.PrintLast Go.Proofs.YtkpkgpopmodagaaW.PrintMore Go.RF
set_option linter.unusedVariables false
set_option linter.unusedSimpArgs false
theorem tells_j0_true (k : Nat) (l o : List S34) (a n : Int) (b : List Int) : sundiallaw12_MemoryTells.j0 (k + 1) l o a n b true = some true := by
  rw [sundiallaw12_MemoryTells.j0, if_pos rfl, wakes_true, Option.bind_some]
/-- reads agree -/
theorem read_agree (l : List S34) (hl : l.length ≤ 20) (hs : Small l) (a n : Int) (ha : InR a) (k : Nat) (hk : 4200 ≤ k) : sundialref12_Read.f k l a n = some (readP l a n, readE l a n) := by
  unfold sundialref12_Read.f
  obtain ⟨k, rfl⟩ : ∃ z, k = z + 1 := ⟨k - 1, by omega⟩
  by_cases h0 : n < 0
  · rw [if_pos h0, sundialref12_Read.j0, if_pos rfl]
    unfold readP readE
    rw [if_pos (.inl h0), if_pos (.inl h0)]
  rw [if_neg h0]
  by_cases h1 : n > 4096
  · rw [show decide (n > 4096) = true from decide_eq_true h1, sundialref12_Read.j0, if_pos rfl]
    unfold readP readE
    rw [if_pos (.inr h1), if_pos (.inr h1)]
  rw [show decide (n > 4096) = false from decide_eq_false h1, sundialref12_Read.j0, if_neg (by simp)]
  obtain ⟨N, rfl⟩ : ∃ N : Nat, n = N := ⟨n.toNat, by omega⟩
  have h := readR l hl hs a N (by omega) N 0 k [] (by omega) (by omega) (by simp)
  rw [Int.natCast_zero, Int.add_zero, ha.id] at h
  obtain ⟨e1, e2⟩ := read_eq hs ha N (by omega)
  rw [e1, e2]
  refine h.trans ?_
  split
  · rw [List.nil_append]
  · rfl
theorem fetch_agree (l : List S34) (hl : l.length ≤ 20) (hs : Small l) (a n : Int) (ha : InR a) (k : Nat) (hk : 4200 ≤ k) : sundialref12_Fetch.f k l a n = some (fetchP l a n, fetchE l a n) := by
  unfold sundialref12_Fetch.f
  have hm : (mn n 4096).toNat = (if n < 4096 then n else 4096).toNat := by unfold mn; split <;> split <;> omega
  have hN : (mn n 4096).toNat ≤ 4096 := by unfold mn; split <;> omega
  have h := fetchR l hl hs a n _ hN rfl (mn n 4096).toNat 0 k [] (by omega) (by omega) (by simp)
  rw [Int.natCast_zero, Int.add_zero, ha.id, List.nil_append, hm] at h
  have hb : fetchP l a n = bytesAt l 1 (if n < 4096 then n else 4096).toNat a := gatherP_bytes l a _ 1 hs ha
  rw [← hb] at h
  refine h.trans ?_
  unfold fetchE
  by_cases h0 : (fetchP l a n).length = 0
  · rw [if_pos h0, if_pos h0, List.eq_nil_of_length_eq_zero h0]
  · rw [if_neg h0, if_neg h0]
theorem bits_small : ∀ f : Fin 8, (Go.bits .and .u8 (f.val : Int) 3 ≠ 3) ↔ ¬ (Go.bits .and .u8 (f.val : Int) 1 ≠ 0 ∧ Go.bits .and .u8 (f.val : Int) 2 ≠ 0) := by decide +kernel
theorem rightFrom_drop (l : List S34) (hg : ∀ y ∈ l, GoodPage y) : ∀ (m i : Nat) (first : Bool) (prev : Int), l.length = i + m → first = (i == 0) → (0 < i → prev = (rd_T34 l ((i - 1 : Nat) : Int)).f0) → (rightFrom first prev (l.drop i) = true ↔ ∀ j, i ≤ j → j < l.length → PageR l j) := by
  intro m
  induction m with
  | zero =>
    intro i first prev h hf hp
    rw [List.drop_of_length_le (by omega)]
    exact ⟨fun _ j h1 h2 => by omega, fun _ => rfl⟩
  | succ m ih =>
    intro i first prev h hf hp
    have hi : i < l.length := by omega
    rw [drop_rd l i hi, rightFrom, Bool.and_eq_true, ih (i + 1) false _ (by omega) (by simp) (fun _ => by rw [Nat.add_sub_cancel])]
    have hpg : pageB first prev (rd_T34 l (i : Int)) = true ↔ PageR l i := by
      have hgd := (hg _ (rd_mem hi)).2.1
      simp only [Lit.wf, Bool.and_eq_true, decide_eq_true_iff] at hgd
      have e1 : IntKind.u8.min = 0 := by rfl
      rw [e1] at hgd
      have hlast : (first = true ∨ prev < (rd_T34 l (i : Int)).f0) ↔ (0 < i → (rd_T34 l ((i - 1 : Nat) : Int)).f0 < (rd_T34 l (i : Int)).f0) := by
        subst hf
        by_cases h0 : i = 0
        · subst h0; simp
        · rw [← hp (by omega)]
          constructor
          · rintro (h | h) _
            · simp at h; omega
            · exact h
          · intro h; exact .inr (h (by omega))
      unfold pageB PageR
      simp only [Bool.and_eq_true, decide_eq_true_iff, Bool.or_eq_true]
      rw [hlast]
      constructor
      · rintro ⟨p1, p2, p3, p4, p5⟩
        have := (bits_small ⟨(rd_T34 l (i : Int)).f1.toNat, by omega⟩)
        rw [show ((⟨(rd_T34 l (i : Int)).f1.toNat, by omega⟩ : Fin 8).val : Int) = (rd_T34 l (i : Int)).f1 by show (((rd_T34 l (i : Int)).f1.toNat : Nat) : Int) = _; omega] at this
        exact ⟨p1, p2, by omega, this.1 p4, p5⟩
      · rintro ⟨p1, p2, p3, p4, p5⟩
        have := (bits_small ⟨(rd_T34 l (i : Int)).f1.toNat, by omega⟩)
        rw [show ((⟨(rd_T34 l (i : Int)).f1.toNat, by omega⟩ : Fin 8).val : Int) = (rd_T34 l (i : Int)).f1 by show (((rd_T34 l (i : Int)).f1.toNat : Nat) : Int) = _; omega] at this
        exact ⟨p1, p2, by omega, this.2 p4, p5⟩
    rw [hpg]
    constructor
    · rintro ⟨h1, h2⟩ j h3 h4
      by_cases e : j = i
      · subst e; exact h1
      · exact h2 j (by omega) h4
    · intro h
      exact ⟨h i (Nat.le_refl _) hi, fun j h1 h2 => h j (by omega) h2⟩
theorem right_agree (l : List S34) (hg : ∀ y ∈ l, GoodPage y) : rightP l = true ↔ PagesR l := by
  unfold rightP PagesR
  rw [Bool.and_eq_true, decide_eq_true_iff]
  have := rightFrom_drop l hg l.length 0 true 0 (by omega) (by rfl) (fun h => by omega)
  rw [List.drop_zero] at this
  rw [this]
  exact ⟨fun h => ⟨fun j hj => h.2 j (by omega) hj, by omega⟩, fun h => ⟨by have := h.2; omega, fun j _ hj => h.1 j hj⟩⟩
theorem gather_len (l : List S34) : ∀ cs : List (Nat × Nat × Nat), (∀ x ∈ cs, x.2.1 + x.2.2 ≤ (rd_T34 l (x.1 : Int)).f2.length) → (gatherP l cs).length = countP cs
  | [], _ => rfl
  | x :: r, h => by
    have h1 := gather_len l r (fun y hy => h y (List.mem_cons_of_mem _ hy))
    have h2 := h x (by simp)
    have h3 : (bytesP l x).length = x.2.2 := by unfold bytesP; rw [List.length_take, List.length_drop]; omega
    have e1 : gatherP l (x :: r) = bytesP l x ++ gatherP l r := rfl
    have e2 : countP (x :: r) = x.2.2 + countP r := by unfold countP; simp
    rw [e1, e2, List.length_append, h1, h3]
theorem write_agree (l : List S34) (hl : l.length ≤ 20) (hs : Small l) (hs0 : ∀ x ∈ l, x.f2.length ≤ 4096) (a : Int) (ha : InR a) (b : List Int) (k : Nat) (hk : 4200 ≤ k) : sundialref12_Write.f k l a b = some (writeP l a b, writeE l a b) := by
  unfold sundialref12_Write.f
  rw [own_some l hl hs0 k (by omega), Option.bind_some, Option.bind_some]
  by_cases h1 : (b.length : Int) > 4096
  · rw [if_pos h1]
    unfold writeP writeE
    rw [if_pos (show b.length > 4096 by omega), if_pos (show b.length > 4096 by omega)]
  rw [if_neg h1]
  have h := writeR l hl hs hs0 a
  by_cases h0 : b.length = 0
  · obtain ⟨k, rfl⟩ : ∃ z, k = z + 1 := ⟨k - 1, by omega⟩
    rw [sundialref12_Write.l0, if_neg (by omega)]
    obtain rfl := List.eq_nil_of_length_eq_zero h0
    obtain ⟨e1, _, _⟩ := write_ok hs ha (b := []) (by simp) (by simp [bytesAt])
    rw [e1]
    have e2 : writeP l a [] = l := by
      unfold writeP
      rw [if_neg (by simp), if_neg (by simp)]
      have : chunksP l a (([] : List Int).length : Int) 2 = [] := by unfold chunksP; rfl
      rw [this]; rfl
    rw [e2]
  have hm1 : 1 ≤ mostP l b.length := by unfold mostP; split <;> omega
  have h := writeR l hl hs hs0 a (mostP l b.length) (steady l _ hs) hm1 b (by omega) b.length 0 k l (by omega) (by omega) (Alike.refl l) (by omega)
  rw [Int.natCast_zero, Int.add_zero, ha.id, Nat.sub_zero, List.drop_zero] at h
  refine h.trans ?_
  have hcs : chunks l 2 (mostP l b.length) b.length a (b.length : Int) = chunksP l a b.length 2 := by unfold chunksP; rw [Int.toNat_natCast]
  rw [hcs]
  have hgl := gather_len l (chunksP l a b.length 2) (fun x hx => (chunks_in l 2 _ (fun y hy => by have := hs0 y hy; omega) _ a _ (fun _ => hm1) x hx).2.2)
  have hle := chunks_sum l 2 (mostP l b.length) (b.length : Int).toNat a b.length
  rw [show ((chunks l 2 (mostP l b.length) (b.length : Int).toNat a b.length).map (·.2.2)).sum = countP (chunksP l a b.length 2) from rfl] at hle
  unfold writeP writeE
  rw [if_neg (show ¬ b.length > 4096 by omega), if_neg (show ¬ b.length > 4096 by omega), hgl]
  by_cases hc : countP (chunksP l a b.length 2) = b.length
  · rw [if_pos hc, if_neg (show ¬ countP (chunksP l a b.length 2) < b.length by omega), if_neg (show ¬ countP (chunksP l a b.length 2) < b.length by omega)]
  · rw [if_neg hc, if_pos (show countP (chunksP l a b.length 2) < b.length by omega), if_pos (show countP (chunksP l a b.length 2) < b.length by omega)]
theorem same_agree_l (l m : List S34) (hl : l.length ≤ 20) (he : l.length = m.length) : ∀ (n i k : Nat), l.length = i + n → n + 1 ≤ k → sundialref12_Same.l0 k l m (i : Int) = some (sameFrom (l.drop i) (m.drop i)) := by
  intro n
  induction n with
  | zero =>
    intro i k h hk
    obtain ⟨k, rfl⟩ : ∃ z, k = z + 1 := ⟨k - 1, by omega⟩
    rw [sundialref12_Same.l0, if_neg (by omega), List.drop_of_length_le (by omega), List.drop_of_length_le (by omega)]
    rfl
  | succ n ih =>
    intro i k h hk
    obtain ⟨k, rfl⟩ : ∃ z, k = z + 1 := ⟨k - 1, by omega⟩
    have hi : i < l.length := by omega
    have him : i < m.length := by omega
    have hn := ih (i + 1) k (by omega) (by omega)
    rw [sundialref12_Same.l0, if_pos (by omega), if_pos (by omega), if_pos (by omega), w64s i (by omega), hn, drop_rd l i hi, drop_rd m i him]
    have e : sameFrom (rd_T34 l (i : Int) :: l.drop (i + 1)) (rd_T34 m (i : Int) :: m.drop (i + 1)) = (sameP (rd_T34 l (i : Int)) (rd_T34 m (i : Int)) && sameFrom (l.drop (i + 1)) (m.drop (i + 1))) := rfl
    rw [e]
    unfold sameP
    by_cases c1 : (rd_T34 l (i : Int)).f0 = (rd_T34 m (i : Int)).f0
    · rw [if_pos c1]
      by_cases c2 : (rd_T34 l (i : Int)).f1 = (rd_T34 m (i : Int)).f1
      · rw [if_pos c2]
        by_cases c3 : (strOfNums (rd_T34 l (i : Int)).f2).toList = (strOfNums (rd_T34 m (i : Int)).f2).toList
        · rw [if_pos c3]
          rw [show ((rd_T34 l (i : Int)).f0 == (rd_T34 m (i : Int)).f0) = true by simpa using c1, show ((rd_T34 l (i : Int)).f1 == (rd_T34 m (i : Int)).f1) = true by simpa using c2, show ((strOfNums (rd_T34 l (i : Int)).f2).toList == (strOfNums (rd_T34 m (i : Int)).f2).toList) = true by rw [beq_iff_eq]; exact c3]
          rfl
        · rw [if_neg c3, show ((strOfNums (rd_T34 l (i : Int)).f2).toList == (strOfNums (rd_T34 m (i : Int)).f2).toList) = false by rw [beq_eq_false_iff_ne]; exact c3]
          simp
      · rw [if_neg c2, show ((rd_T34 l (i : Int)).f1 == (rd_T34 m (i : Int)).f1) = false by simpa using c2]
        simp
    · rw [if_neg c1, show ((rd_T34 l (i : Int)).f0 == (rd_T34 m (i : Int)).f0) = false by simpa using c1]
      simp
theorem same_agree (l m : List S34) (hl : l.length ≤ 20) (k : Nat) (hk : 30 ≤ k) : sundialref12_Same.f k l m = some (sameL l m) := by
  unfold sundialref12_Same.f sameL
  by_cases he : l.length = m.length
  · rw [if_pos (by omega), decide_eq_true he]
    have := same_agree_l l m hl he l.length 0 k (by omega) (by omega)
    rw [List.drop_zero, List.drop_zero] at this
    rw [Bool.true_and]
    exact this
  · rw [if_neg (by omega), decide_eq_false he, Bool.false_and]
theorem Pure.MemoryTells (l o : List S34) (a n : Int) (b : List Int) (hg : ∀ y ∈ l, GoodPage y) (hgo : ∀ y ∈ o, GoodPage y) (w1 : (Lit.int .u64 a).wf = true) (w2 : (Lit.int .i64 n).wf = true) (wb : ∀ y ∈ b, (Lit.int .u8 y).wf = true) :
    ∃ k, sundiallaw12_MemoryTells.f k l o a n b = some true := by
  refine ⟨5000, ?_⟩
  unfold sundiallaw12_MemoryTells.f
  obtain ⟨g, hgr, hgs⟩ := great_some l
  rw [hgr 5000 (by omega), Option.bind_some]
  cases g with
  | true => rw [if_pos rfl]; exact tells_j0_true _ _ _ _ _ _
  | false =>
    rw [if_neg (by simp)]
    obtain ⟨hl, hs0⟩ := hgs rfl
    obtain ⟨g', hgr', hgs'⟩ := great_some o
    rw [hgr' 5000 (by omega), Option.bind_some]
    cases g' with
    | true => rw [if_pos rfl]; exact tells_j0_true _ _ _ _ _ _
    | false =>
      rw [if_neg (by simp)]
      by_cases h : (b.length : Int) > 5000
      · rw [show decide ((b.length : Int) > 5000) = true from decide_eq_true h]; exact tells_j0_true _ _ _ _ _ _
      rw [show decide ((b.length : Int) > 5000) = false from decide_eq_false h]
      have hs := small_of hg hs0
      have ha := inr_of w1
      obtain ⟨r, hr, hri⟩ := right_some l hl
      have hrr : rightP l = r := by
        have := right_agree l hg
        cases hc : rightP l with
        | true => rw [hc] at this; exact (hri.2 (this.1 rfl)).symm
        | false =>
          rw [hc] at this
          cases hcr : r with
          | false => rfl
          | true => exact absurd (this.2 (hri.1 hcr)) (by simp)
      have fr : memory_Right.f l = some r := by rw [← hrr]; rfl
      have ff : memory_Find.f l a = some (findP l a) := rfl
      have fo : memory_Own.f l = some l := by
        unfold memory_Own.f G.Own
        rw [if_pos ⟨by omega, fun x hx => by have := hs0 x hx; omega⟩]
      have fs : memory_Same.f l o = some (sameL l o) := rfl
      have ft : memory_Fetch.f l a n = some (fetchP l a n, fetchE l a n) := rfl
      rw [sundiallaw12_MemoryTells.j0, if_neg (by simp), read_some, Option.bind_some, read_agree l hl hs a n ha 4999 (by omega), Option.bind_some, ft, Option.bind_some, fetch_agree l hl hs a n ha 4999 (by omega), Option.bind_some]
      rw [same_refl, Option.bind_some, if_pos rfl, if_pos rfl, same_refl, Option.bind_some, if_pos rfl, if_pos rfl, fr, Option.bind_some, hr 4999 (by omega), Option.bind_some]
      rw [if_neg (by simp), ff, Option.bind_some, find_some l a hl 4999 (by omega), Option.bind_some]
      rw [show (findP l a != findP l a) = false by simp]
      rw [sundiallaw12_MemoryTells.j1, if_neg (by simp), write_some hl hs, Option.bind_some, write_agree l hl hs hs0 a ha b 4998 (by omega), Option.bind_some]
      have hwl : (writeP l a b).length ≤ 20 := by
        unfold writeP
        split
        · exact hl
        · split
          · exact hl
          · have := ((Alike.refl l).putAll (chunksP l a b.length 2) b).1
            omega
      rw [same_some (writeP l a b) hwl 4998 (by omega), Option.bind_some, if_pos rfl, if_pos rfl, fo, Option.bind_some, same_some l hl 4998 (by omega), Option.bind_some, if_pos rfl, fs, Option.bind_some, same_agree l o hl 4998 (by omega), Option.bind_some]
      rw [if_pos (by simp), wakes_true, Option.bind_some]
end Go.Proofs.Ytkpkgpopmodagaa.B
