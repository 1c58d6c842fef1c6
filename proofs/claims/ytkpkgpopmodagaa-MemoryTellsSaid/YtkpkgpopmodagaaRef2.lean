import Derived.Test.YtkpkgpopmodagaaRef
namespace Go.Proofs.Ytkpkgpopmodagaa.B
open Go.RowKit Go.Proofs.YtkpkgpopmodagaaW.PrintWords Go.Proofs.YtkpkgpopmodagaaW.PrintLast Go.Proofs.YtkpkgpopmodagaaW.PrintMore Go.RF
set_option linter.unusedVariables false
set_option linter.unusedSimpArgs false
theorem own_l (l : List S34) (hl : l.length ≤ 20) (hs : ∀ x ∈ l, x.f2.length ≤ 4096) : ∀ (m i k : Nat), l.length = i + m → m + 1 ≤ k → sundialref12_Own.l0 k l (l.take i) (i : Int) = some l := by
  intro m
  induction m with
  | zero =>
    intro i k h hk
    obtain ⟨k, rfl⟩ : ∃ q, k = q + 1 := ⟨k - 1, by omega⟩
    rw [sundialref12_Own.l0, if_neg (by omega), List.take_of_length_le (by omega)]
  | succ m ih =>
    intro i k h hk
    obtain ⟨k, rfl⟩ : ∃ q, k = q + 1 := ⟨k - 1, by omega⟩
    have hi : i < l.length := by omega
    have hg := rd_get hi
    have hln := hs _ (rd_mem hi)
    rw [sundialref12_Own.l0, if_pos (by omega), if_pos (by omega), Option.bind_some]
    rw [if_pos (show ([] : List Int).length + (rd_T34 l (i : Int)).f2.length < 140737488355328 by rw [List.length_nil]; omega)]
    rw [if_pos (show (l.take i).length < 3518437208883 by rw [List.length_take]; omega)]
    rw [List.nil_append, w64 (by omega)]
    have e : l.take i ++ [(⟨(rd_T34 l (i : Int)).f0, (rd_T34 l (i : Int)).f1, (rd_T34 l (i : Int)).f2⟩ : S34)] = l.take (i + 1) := by
      rw [List.take_add_one, hg]; rfl
    rw [e]
    exact ih (i + 1) k (by omega) (by omega)
theorem own_some (l : List S34) (hl : l.length ≤ 20) (hs : ∀ x ∈ l, x.f2.length ≤ 4096) (k : Nat) (hk : 30 ≤ k) : sundialref12_Own.f k l = some l := own_l l hl hs l.length 0 k (by omega) (by omega)
theorem same_l (l : List S34) (hl : l.length ≤ 20) : ∀ (m i k : Nat), l.length = i + m → m + 1 ≤ k → sundialref12_Same.l0 k l l (i : Int) = some true := by
  intro m
  induction m with
  | zero =>
    intro i k h hk
    obtain ⟨k, rfl⟩ : ∃ q, k = q + 1 := ⟨k - 1, by omega⟩
    rw [sundialref12_Same.l0, if_neg (by omega)]
  | succ m ih =>
    intro i k h hk
    obtain ⟨k, rfl⟩ : ∃ q, k = q + 1 := ⟨k - 1, by omega⟩
    rw [sundialref12_Same.l0, if_pos (by omega), if_pos (by omega), if_pos (by omega), if_pos rfl, if_pos rfl, if_pos rfl, w64 (by omega)]
    exact ih (i + 1) k (by omega) (by omega)
theorem same_some (l : List S34) (hl : l.length ≤ 20) (k : Nat) (hk : 30 ≤ k) : sundialref12_Same.f k l l = some true := by
  unfold sundialref12_Same.f
  rw [if_pos rfl]
  exact same_l l hl l.length 0 k (by omega) (by omega)
theorem find_l (l : List S34) (a : Int) (hl : l.length ≤ 20) : ∀ (m i k : Nat), l.length = i + m → m + 1 ≤ k → sundialref12_Find.l0 k l a (i : Int) = some (firstAt (onPage a) (l.drop i) i) := by
  intro m
  induction m with
  | zero =>
    intro i k h hk
    obtain ⟨k, rfl⟩ : ∃ q, k = q + 1 := ⟨k - 1, by omega⟩
    rw [sundialref12_Find.l0, if_neg (by omega), List.drop_of_length_le (by omega)]; rfl
  | succ m ih =>
    intro i k h hk
    obtain ⟨k, rfl⟩ : ∃ q, k = q + 1 := ⟨k - 1, by omega⟩
    have hi : i < l.length := by omega
    have hn := ih (i + 1) k (by omega) (by omega)
    have w1 : wrap64 ((i : Int) + 1) = ((i + 1 : Nat) : Int) := by rw [w64 (by omega)]; omega
    rw [sundialref12_Find.l0, if_pos (by omega), if_pos (by omega), w1, hn, drop_rd l i hi]
    rw [firstAt]
    by_cases h1 : a ≥ (rd_T34 l (i : Int)).f0
    · rw [if_pos h1]
      by_cases h2 : IntKind.u64.wrap (a - (rd_T34 l (i : Int)).f0) < IntKind.u64.wrap ((rd_T34 l (i : Int)).f2.length : Int)
      · rw [if_pos h2, if_pos (by unfold onPage; rw [Bool.and_eq_true, decide_eq_true_iff, decide_eq_true_iff]; exact ⟨h1, h2⟩)]
      · rw [if_neg h2, if_neg (by unfold onPage; rw [Bool.and_eq_true, decide_eq_true_iff, decide_eq_true_iff]; exact fun h => h2 h.2)]
    · rw [if_neg h1, if_neg (by unfold onPage; rw [Bool.and_eq_true, decide_eq_true_iff, decide_eq_true_iff]; exact fun h => h1 h.1)]
theorem find_some (l : List S34) (a : Int) (hl : l.length ≤ 20) (k : Nat) (hk : 30 ≤ k) : sundialref12_Find.f k l a = some (findP l a) := by
  have := find_l l a hl l.length 0 k (by omega) (by omega)
  exact this

/-! ### Writes -/
def cellAt (l : List S34) (x : Int) : Int := (rd_T34 l (findP l x)).f2.getD (IntKind.u64.wrap (x - (rd_T34 l (findP l x)).f0)).toNat 0
theorem Alike.at_ {l m : List S34} (h : Alike l m) (j : Nat) (hj : j < l.length) : (rd_T34 m (j : Int)).f0 = (rd_T34 l (j : Int)).f0 ∧ (rd_T34 m (j : Int)).f1 = (rd_T34 l (j : Int)).f1 ∧ (rd_T34 m (j : Int)).f2.length = (rd_T34 l (j : Int)).f2.length := by
  obtain ⟨h1, h2, h3⟩ := h.2 j _ _ (rd_get hj) (rd_get (by have := h.1; omega))
  exact ⟨h1.symm, h2.symm, h3.symm⟩
theorem Alike.symm {l m : List S34} (h : Alike l m) : Alike m l := ⟨h.1.symm, fun j x y hx hy => by obtain ⟨h1, h2, h3⟩ := h.2 j y x hy hx; exact ⟨h1.symm, h2.symm, h3.symm⟩⟩
theorem Alike.trans {l m n : List S34} (h : Alike l m) (h' : Alike m n) : Alike l n := ⟨h.1.trans h'.1, fun j x y hx hy => by
  have hj : j < m.length := by have := (List.getElem?_eq_some_iff.1 hx).1; have := h.1; omega
  obtain ⟨a1, a2, a3⟩ := h.2 j x _ hx (rd_get hj)
  obtain ⟨b1, b2, b3⟩ := h'.2 j _ y (rd_get hj) hy
  exact ⟨a1.trans b1, a2.trans b2, a3.trans b3⟩⟩
theorem Alike.small {l m : List S34} (h : Alike l m) (hs : Small l) : Small m := fun x hx => by
  obtain ⟨j, hj, rfl⟩ := List.mem_iff_getElem.1 hx
  have hl : j < l.length := by have := h.1; omega
  obtain ⟨h1, h2, h3⟩ := h.2 j _ _ (rd_get hl) (List.getElem?_eq_getElem hj)
  have := hs _ (rd_mem hl)
  rw [← h1, ← h3]; exact this
theorem firstAt_congr (p q : S34 → Bool) : ∀ (l m : List S34) (k : Nat), l.length = m.length → (∀ (j : Nat) (x y : S34), l[j]? = some x → m[j]? = some y → p x = q y) → firstAt p l k = firstAt q m k
  | [], [], _, _, _ => rfl
  | [], _ :: _, _, h, _ => by simp at h
  | _ :: _, [], _, h, _ => by simp at h
  | x :: r, y :: s, k, h, hh => by
    have := firstAt_congr p q r s (k + 1) (by simpa using h) (fun j a b ha hb => hh (j + 1) a b (by simpa using ha) (by simpa using hb))
    simp only [firstAt, this, hh 0 x y rfl rfl]
theorem Alike.find {l m : List S34} (h : Alike l m) (a : Int) : findP m a = findP l a := by
  unfold findP
  exact (firstAt_congr _ _ l m 0 h.1 (fun j x y hx hy => by
    obtain ⟨h1, h2, h3⟩ := h.2 j x y hx hy
    unfold onPage
    rw [h1, h3])).symm
theorem over_get : ∀ (ys xs : List Int) (o i : Nat), o + ys.length ≤ xs.length → (over xs o ys).getD i 0 = if o ≤ i ∧ i < o + ys.length then ys.getD (i - o) 0 else xs.getD i 0
  | [], xs, o, i, _ => by rw [over, if_neg (by simp)]
  | y :: ys, xs, o, i, h => by
    have h' : o + 1 + ys.length ≤ (xs.set o y).length := by rw [List.length_set]; simp at h; omega
    rw [over, over_get ys _ _ _ h']
    simp only [List.length_cons] at h ⊢
    by_cases h1 : o + 1 ≤ i ∧ i < o + 1 + ys.length
    · rw [if_pos h1, if_pos (by omega), show i - o = (i - (o + 1)) + 1 by omega]; simp
    · rw [if_neg h1]
      by_cases h2 : i = o
      · subst h2
        rw [if_pos (by omega), Nat.sub_self]
        simp [List.getD_eq_getElem?_getD, List.getElem?_set, show i < xs.length by omega]
      · rw [if_neg (by omega)]
        simp [List.getD_eq_getElem?_getD, List.getElem?_set, Ne.symm h2]
/-- What a page's cell is behind one part's writing. -/
theorem putOne_get (m : List S34) (j o c : Nat) (b : List Int) (hj : j < m.length) (ho : o + c ≤ (rd_T34 m (j : Int)).f2.length) (hc : c ≤ b.length) (j' i : Nat) (hj' : j' < m.length) :
    (rd_T34 (putOne m (j, o, c) b) (j' : Int)).f2.getD i 0 = if j' = j ∧ o ≤ i ∧ i < o + c then b.getD (i - o) 0 else (rd_T34 m (j' : Int)).f2.getD i 0 := by
  have hl : j' < (putOne m (j, o, c) b).length := by rw [putOne, List.length_set]; exact hj'
  have e := rd_get hl
  unfold putOne at e
  rw [List.getElem?_set] at e
  by_cases h : j' = j
  · subst h
    rw [if_pos rfl, if_pos hj] at e
    injection e with e
    unfold putOne
    rw [← e]
    have hbl : (b.take c).length = c := by rw [List.length_take]; omega
    rw [over_get _ _ _ _ (by rw [hbl]; exact ho), hbl]
    by_cases h2 : o ≤ i ∧ i < o + c
    · rw [if_pos h2, if_pos ⟨rfl, h2⟩]
      simp only [List.getD_eq_getElem?_getD]
      rw [List.getElem?_take, if_pos (by omega)]
    · rw [if_neg h2, if_neg (fun h => h2 h.2)]
  · rw [if_neg (Ne.symm h), rd_get hj'] at e
    injection e with e
    unfold putOne
    rw [← e, if_neg (fun hh => h hh.1)]
theorem put_cells (l : List S34) (perm most : Int) (hs : Small l) (hst : Steady l most) : ∀ (f : Nat) (a n : Int) (m : List S34) (b : List Int), InR a → n ≤ 4096 → Alike l m → countP (chunks l perm most f a n) ≤ b.length →
    ∀ x, InR x → 0 ≤ findP l x → cellAt (putAllP (chunks l perm most f a n) m b) x = if IntKind.u64.wrap (x - a) < (countP (chunks l perm most f a n) : Int) then b.getD (IntKind.u64.wrap (x - a)).toNat 0 else cellAt m x
  | 0, a, n, m, b, ha, hn4, hal, hb, x, hx, hf => by
    have : ¬ (IntKind.u64.wrap (x - a) < ((countP (chunks l perm most 0 a n) : Nat) : Int)) := by simp [chunks, countP]; have := InR.w (x - a); unfold InR at this; omega
    rw [if_neg this]; rfl
  | f + 1, a, n, m, b, ha, hn4, hal, hb, x, hx, hf => by
    have stop : chunks l perm most (f + 1) a n = [] → cellAt (putAllP (chunks l perm most (f + 1) a n) m b) x = if IntKind.u64.wrap (x - a) < (countP (chunks l perm most (f + 1) a n) : Int) then b.getD (IntKind.u64.wrap (x - a)).toNat 0 else cellAt m x := fun h => by
      rw [h]
      have : ¬ (IntKind.u64.wrap (x - a) < ((countP ([] : List (Nat × Nat × Nat)) : Nat) : Int)) := by simp [countP]; have := InR.w (x - a); unfold InR at this; omega
      rw [if_neg this]; rfl
    by_cases hn : n ≤ 0
    · exact stop (by rw [chunks, if_pos hn])
    rcases find_cases l a hs ha with ⟨h1, _⟩ | ⟨j, hj, h1, h2, h3, h4⟩
    · exact stop (by rw [chunks, if_neg hn, if_pos (by omega)])
    by_cases hp : Go.bits .and .u8 (rd_T34 l (j : Int)).f1 perm = 0
    · exact stop (by rw [chunks, if_neg hn, if_neg (by omega), h1, if_pos hp])
    clear stop
    have hlen := (hs _ (rd_mem hj)).2
    have hf0 := (hs _ (rd_mem hj)).1
    have haa := ha
    unfold InR at ha hf0
    obtain ⟨o, ho⟩ : ∃ o : Nat, a - (rd_T34 l (j : Int)).f0 = (o : Int) := ⟨(a - (rd_T34 l (j : Int)).f0).toNat, by omega⟩
    have how : IntKind.u64.wrap (a - (rd_T34 l (j : Int)).f0) = (o : Int) := by rw [u64w]; omega
    obtain ⟨c, hc⟩ : ∃ c, c = min (min ((rd_T34 l (j : Int)).f2.length - o) n.toNat) most.toNat := ⟨_, rfl⟩
    have hE : chunks l perm most (f + 1) a n = (j, o, c) :: chunks l perm most f (IntKind.u64.wrap (a + (c : Int))) (n - (c : Int)) := by
      rw [chunks, if_neg hn, if_neg (by omega), h1, if_neg hp, how]
      simp only [Int.toNat_natCast]
      rw [← hc]
    rw [hE] at hb ⊢
    have hcnt : countP ((j, o, c) :: chunks l perm most f (IntKind.u64.wrap (a + (c : Int))) (n - (c : Int))) = c + countP (chunks l perm most f (IntKind.u64.wrap (a + (c : Int))) (n - (c : Int))) := by unfold countP; simp
    rw [hcnt] at hb ⊢
    have hsum := chunks_sum l perm most f (IntKind.u64.wrap (a + (c : Int))) (n - (c : Int))
    rw [show ((chunks l perm most f (IntKind.u64.wrap (a + (c : Int))) (n - (c : Int))).map (·.2.2)).sum = countP (chunks l perm most f (IntKind.u64.wrap (a + (c : Int))) (n - (c : Int))) from rfl] at hsum
    rw [show putAllP ((j, o, c) :: chunks l perm most f (IntKind.u64.wrap (a + (c : Int))) (n - (c : Int))) m b = putAllP (chunks l perm most f (IntKind.u64.wrap (a + (c : Int))) (n - (c : Int))) (putOne m (j, o, c) b) (b.drop c) from rfl]
    rw [put_cells l perm most hs hst f _ _ _ _ (InR.w _) (by omega) (hal.put _ _) (by rw [List.length_drop]; omega) x hx hf]
    obtain ⟨T, hT⟩ : ∃ T, T = countP (chunks l perm most f (IntKind.u64.wrap (a + (c : Int))) (n - (c : Int))) := ⟨_, rfl⟩
    rw [← hT] at hb hsum ⊢
    rcases find_cases l x hs hx with ⟨hx1, _⟩ | ⟨j', hj', hx1, hx2, hx3, hx4⟩
    · omega
    have hmj := hal.at_ j hj
    have hmj' := hal.at_ j' hj'
    have hlen' := (hs _ (rd_mem hj')).2
    have hf0' := (hs _ (rd_mem hj')).1
    have hxx := hx
    unfold InR at hx hf0'
    obtain ⟨o', ho'⟩ : ∃ o' : Nat, x - (rd_T34 l (j' : Int)).f0 = (o' : Int) := ⟨(x - (rd_T34 l (j' : Int)).f0).toNat, by omega⟩
    have how' : IntKind.u64.wrap (x - (rd_T34 l (j' : Int)).f0) = (o' : Int) := by rw [u64w]; omega
    have hcell : cellAt m x = (rd_T34 m (j' : Int)).f2.getD o' 0 := by
      unfold cellAt
      rw [hal.find, hx1, hmj'.1, how', Int.toNat_natCast]
    have hal2 := hal.put (j, o, c) b
    have hcell2 : cellAt (putOne m (j, o, c) b) x = if j' = j ∧ o ≤ o' ∧ o' < o + c then b.getD (o' - o) 0 else (rd_T34 m (j' : Int)).f2.getD o' 0 := by
      unfold cellAt
      rw [hal2.find, hx1, (hal2.at_ j' hj').1, how', Int.toNat_natCast]
      exact putOne_get m j o c b (by have := hal.1; omega) (by omega) (by omega) j' o' (by have := hal.1; omega)
    have hiff : (j' = j ∧ o ≤ o' ∧ o' < o + c) ↔ IntKind.u64.wrap (x - a) < (c : Int) := by
      constructor
      · rintro ⟨e, e1, e2⟩
        subst e
        rw [u64w]; omega
      · intro hlt
        have hw := InR.w (x - a)
        unfold InR at hw
        obtain ⟨i, hi⟩ : ∃ i : Nat, IntKind.u64.wrap (x - a) = (i : Int) := ⟨(IntKind.u64.wrap (x - a)).toNat, by omega⟩
        obtain ⟨hA, hF⟩ := hst a j haa h1 hj i (by omega) (by omega)
        have hxa : x = a + (i : Int) := by unfold InR at hA; rw [u64w] at hi; omega
        rw [hxa] at hx1 ho'
        have hjj : j' = j := by omega
        subst hjj
        exact ⟨rfl, by omega, by omega⟩
    have hsub : IntKind.u64.wrap (x - IntKind.u64.wrap (a + (c : Int))) = IntKind.u64.wrap (x - a - (c : Int)) := by simp only [u64w]; omega
    rw [hsub, hcell2, hcell]
    have hw := InR.w (x - a)
    have hw2 : IntKind.u64.wrap (x - a - (c : Int)) = if IntKind.u64.wrap (x - a) < (c : Int) then IntKind.u64.wrap (x - a) - (c : Int) + 18446744073709551616 else IntKind.u64.wrap (x - a) - (c : Int) := by simp only [u64w]; split <;> omega
    unfold InR at hw
    by_cases hlt : IntKind.u64.wrap (x - a) < (c : Int)
    · have hp3 := hiff.2 hlt
      rw [if_pos hp3, if_neg (by rw [hw2, if_pos hlt]; omega), if_pos (by omega)]
      congr 1
      obtain ⟨e, e1, e2⟩ := hp3
      subst e
      rw [u64w]; omega
    · rw [if_neg (fun h => hlt (hiff.1 h)), hw2, if_neg hlt]
      by_cases h5 : IntKind.u64.wrap (x - a) - (c : Int) < (T : Int)
      · rw [if_pos h5, if_pos (by omega)]
        simp only [List.getD_eq_getElem?_getD, List.getElem?_drop]
        congr 2
        omega
      · rw [if_neg h5, if_neg (by omega)]
end Go.Proofs.Ytkpkgpopmodagaa.B
