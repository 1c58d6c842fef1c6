import Derived.Test.YtkpkgpopmodagaaBx9
import Derived.Test.YtkpkgpopmodagaaBx10
import Derived.Test.YtkpkgpopmodagaaBx11
import Derived.Test.YtkpkgpopmodagaaWr
namespace Go.Proofs.Ytkpkgpopmodagaa.B
open Go.RowKit Go.Proofs.YtkpkgpopmodagaaW.PrintWords Go.Proofs.YtkpkgpopmodagaaW.PrintLast Go.Proofs.YtkpkgpopmodagaaW.PrintMore Go.RF
set_option linter.unusedVariables false
set_option linter.unusedSimpArgs false
theorem reached_none {l : List S34} {p x : Int} (hl : l.length ≤ 20) (h : byteAt l p x = none) (k : Nat) (hk : 30 ≤ k) : sundialref12_reached.f k l x p = some (-1) := by
  unfold sundialref12_reached.f
  rw [find_some l x hl k hk, Option.bind_some]
  rw [byteAt_cell] at h
  rcases find_nat l x with h3 | ⟨j, hj, h3⟩
  · rw [if_pos h3]
  · rw [h3, if_neg (by omega)] at h
    rw [h3, if_neg (by omega), if_pos (by omega), if_pos (by omega)]
    by_cases hb : Go.bits .and .u8 (rd_T34 l (j : Int)).f1 p = 0
    · rw [if_pos hb]
    · rw [if_neg hb] at h; cases h
theorem reached_some {l : List S34} {p x u : Int} (hl : l.length ≤ 20) (h : byteAt l p x = some u) : ∃ j : Nat, j < l.length ∧ findP l x = (j : Int) ∧ u = cellAt l x ∧ ∀ k, 30 ≤ k → sundialref12_reached.f k l x p = some (j : Int) := by
  rw [byteAt_cell] at h
  rcases find_nat l x with h3 | ⟨j, hj, h3⟩
  · rw [if_pos h3] at h; cases h
  rw [h3, if_neg (by omega)] at h
  by_cases hb : Go.bits .and .u8 (rd_T34 l (j : Int)).f1 p = 0
  · rw [if_pos hb] at h; cases h
  rw [if_neg hb] at h
  injection h with h
  refine ⟨j, hj, h3, h.symm, fun k hk => ?_⟩
  unfold sundialref12_reached.f
  rw [find_some l x hl k hk, Option.bind_some, h3, if_neg (by omega), if_pos (by omega), if_pos (by omega), if_neg hb]
/-- the index within a page, of an address that was found -/
theorem in_page {l : List S34} (hs : Small l) {x : Int} (hx : InR x) {j : Nat} (hj : j < l.length) (h : findP l x = (j : Int)) :
    ∃ o : Nat, IntKind.u64.wrap (x - (rd_T34 l (j : Int)).f0) = (o : Int) ∧ o < (rd_T34 l (j : Int)).f2.length ∧ x = (rd_T34 l (j : Int)).f0 + o := by
  rcases find_cases l x hs hx with ⟨hc1, _⟩ | ⟨j', hj', hc1, hc2, hc3, _⟩
  · omega
  obtain rfl : j' = j := by omega
  have hl0 := (hs _ (rd_mem hj)).1
  have hl1 := (hs _ (rd_mem hj)).2
  unfold InR at hl0 hx
  exact ⟨(x - (rd_T34 l (j' : Int)).f0).toNat, by rw [u64w]; omega, by omega, by omega⟩
theorem wadd (a : Int) (i : Nat) (hi : i ≤ 1000000) : IntKind.u64.wrap (a + IntKind.u64.wrap (i : Int)) = IntKind.u64.wrap (a + (i : Nat)) := by simp only [u64w]; omega
theorem wnext (a : Int) (i : Nat) : IntKind.u64.wrap (IntKind.u64.wrap (a + (i : Nat)) + 1) = IntKind.u64.wrap (a + ((i + 1 : Nat) : Int)) := by rw [wrap_add]; congr 1; omega
theorem readR (l : List S34) (hl : l.length ≤ 20) (hs : Small l) (a : Int) (N : Nat) (hN : N ≤ 4096) : ∀ (m i k : Nat) (acc : List Int), N = i + m → m + 50 ≤ k → acc.length ≤ i →
    sundialref12_Read.l0 k l a N acc (i : Int) = if (bytesAt l 4 m (IntKind.u64.wrap (a + (i : Nat)))).length = m then some (acc ++ bytesAt l 4 m (IntKind.u64.wrap (a + (i : Nat))), 0) else some ([], 120) := by
  intro m
  induction m with
  | zero =>
    intro i k acc h hk ha
    obtain ⟨k, rfl⟩ : ∃ z, k = z + 1 := ⟨k - 1, by omega⟩
    rw [sundialref12_Read.l0, if_neg (by omega)]
    simp [bytesAt]
  | succ m ih =>
    intro i k acc h hk ha
    obtain ⟨k, rfl⟩ : ∃ z, k = z + 1 := ⟨k - 1, by omega⟩
    have w1 : wrap64 ((i : Int) + 1) = ((i + 1 : Nat) : Int) := by rw [w64 (by omega)]; omega
    rw [sundialref12_Read.l0, if_pos (by omega), wadd a i (by omega)]
    obtain ⟨x, hx⟩ : ∃ x, IntKind.u64.wrap (a + (i : Nat)) = x := ⟨_, rfl⟩
    have hxr : InR x := by rw [← hx]; exact InR.w _
    have hnx := wnext a i
    rw [hx] at hnx ⊢
    cases hb : byteAt l 4 x with
    | none =>
      rw [reached_none hl hb k (by omega), Option.bind_some, if_pos (by omega), bytesAt_none m hb, if_neg (by simp)]
    | some u =>
      obtain ⟨j, hj, h3, hu, hr⟩ := reached_some hl hb
      obtain ⟨o, ho, hol, _⟩ := in_page hs hxr hj h3
      rw [hr k (by omega), Option.bind_some, if_neg (by omega), if_pos (by omega), if_pos (by omega), ho, if_pos (by omega), if_pos (by omega), if_pos (by omega)]
      rw [w1, ih (i + 1) k _ (by omega) (by omega) (by rw [List.length_append]; simp; omega), bytesAt_some m hb, hnx]
      have hu' : rd (rd_T34 l (j : Int)).f2 (o : Int) = u := by rw [hu]; unfold cellAt; rw [h3, ho]; rfl
      rw [hu']
      by_cases hq : (bytesAt l 4 m (IntKind.u64.wrap (a + ((i + 1 : Nat) : Int)))).length = m
      · rw [if_pos hq, if_pos (by rw [List.length_cons, hq]), List.append_assoc]; rfl
      · rw [if_neg hq, if_neg (by rw [List.length_cons]; omega)]
theorem fetchR (l : List S34) (hl : l.length ≤ 20) (hs : Small l) (a n : Int) (N : Nat) (hN : N ≤ 4096) (hn : N = (mn n 4096).toNat) : ∀ (m i k : Nat) (acc : List Int), N = i + m → m + 50 ≤ k → acc.length ≤ i →
    sundialref12_Fetch.l0 k l a n acc (i : Int) = if (acc ++ bytesAt l 1 m (IntKind.u64.wrap (a + (i : Nat)))).length = 0 then some ([], 122) else some (acc ++ bytesAt l 1 m (IntKind.u64.wrap (a + (i : Nat))), 0) := by
  intro m
  induction m with
  | zero =>
    intro i k acc h hk ha
    obtain ⟨k, rfl⟩ : ∃ z, k = z + 1 := ⟨k - 1, by omega⟩
    rw [sundialref12_Fetch.l0, if_neg (by omega)]
    simp only [bytesAt, List.append_nil]
    by_cases h0 : acc.length = 0
    · rw [if_pos h0, if_pos (by omega)]
    · rw [if_neg h0, if_neg (by omega)]
  | succ m ih =>
    intro i k acc h hk ha
    obtain ⟨k, rfl⟩ : ∃ z, k = z + 1 := ⟨k - 1, by omega⟩
    have w1 : wrap64 ((i : Int) + 1) = ((i + 1 : Nat) : Int) := by rw [w64 (by omega)]; omega
    rw [sundialref12_Fetch.l0, if_pos (by omega), wadd a i (by omega)]
    obtain ⟨x, hx⟩ : ∃ x, IntKind.u64.wrap (a + (i : Nat)) = x := ⟨_, rfl⟩
    have hxr : InR x := by rw [← hx]; exact InR.w _
    have hnx := wnext a i
    rw [hx] at hnx ⊢
    cases hb : byteAt l 1 x with
    | none =>
      rw [reached_none hl hb k (by omega), Option.bind_some, if_pos (by omega), bytesAt_none m hb, List.append_nil]
      by_cases h0 : acc.length = 0
      · rw [if_pos (by omega), if_pos h0]
      · rw [if_neg (by omega), if_neg h0]
    | some u =>
      obtain ⟨j, hj, h3, hu, hr⟩ := reached_some hl hb
      obtain ⟨o, ho, hol, _⟩ := in_page hs hxr hj h3
      rw [hr k (by omega), Option.bind_some, if_neg (by omega), if_pos (by omega), if_pos (by omega), ho, if_pos (by omega), if_pos (by omega), if_pos (by omega)]
      rw [w1, ih (i + 1) k _ (by omega) (by omega) (by rw [List.length_append]; simp; omega), bytesAt_some m hb, hnx]
      have hu' : rd (rd_T34 l (j : Int)).f2 (o : Int) = u := by rw [hu]; unfold cellAt; rw [h3, ho]; rfl
      rw [hu', List.append_assoc]
      rfl
/-! ### Writes, byte by byte -/
theorem set_self (m : List S34) (j : Nat) (hj : j < m.length) : m.set j (rd_T34 m (j : Int)) = m := by
  have e := rd_get hj
  rw [List.getElem?_eq_getElem hj] at e
  injection e with e
  rw [← e]
  exact List.set_getElem_self hj
theorem rd_set (m : List S34) (j : Nat) (hj : j < m.length) (x : S34) : rd_T34 (m.set j x) (j : Int) = x := by
  simp [rd_T34, List.getD_eq_getElem?_getD, List.getElem?_set, hj]
theorem put_zero (m : List S34) (j o : Nat) (b : List Int) (hj : j < m.length) : putOne m (j, o, 0) b = m := by
  unfold putOne
  simp only [List.take_zero, over]
  exact set_self m j hj
theorem put_step (m : List S34) (j o c : Nat) (b : List Int) (hj : j < m.length) (hc : c + 1 ≤ b.length) :
    putOne m (j, o, c + 1) b = putOne (m.set j ⟨(rd_T34 m (j : Int)).f0, (rd_T34 m (j : Int)).f1, (rd_T34 m (j : Int)).f2.set o (b.getD 0 0)⟩) (j, o + 1, c) (b.drop 1) := by
  cases b with
  | nil => simp at hc
  | cons y r =>
    unfold putOne
    simp only [rd_set m j hj, List.take_succ_cons, over, List.set_set, List.drop_succ_cons, List.drop_zero]
    rfl
theorem w64s (i : Nat) (h : i ≤ 5000) : wrap64 ((i : Int) + 1) = ((i + 1 : Nat) : Int) := by rw [w64 (by omega)]; omega
theorem rd_drop (b : List Int) (i : Nat) : rd b (i : Int) = (b.drop i).getD 0 0 := by
  unfold rd
  simp only [List.getD_eq_getElem?_getD, List.getElem?_drop, Int.toNat_natCast, Nat.add_zero]
theorem writeR_one (l : List S34) (a : Int) (b : List Int) (m : List S34) (i j o K : Nat) (x : Int) (hx : IntKind.u64.wrap (a + IntKind.u64.wrap (i : Int)) = x) (hr : sundialref12_reached.f K l x 2 = some (j : Int)) (h1 : i < b.length) (h2 : j < m.length) (h3 : j < l.length) (hi : i ≤ 5000)
    (ho : IntKind.u64.wrap (x - (rd_T34 l (j : Int)).f0) = (o : Int)) (h4 : o < (rd_T34 m (j : Int)).f2.length) :
    sundialref12_Write.l0 (K + 1) l a b m (i : Int) = sundialref12_Write.l0 K l a b (m.set j ⟨(rd_T34 m (j : Int)).f0, (rd_T34 m (j : Int)).f1, (rd_T34 m (j : Int)).f2.set o ((b.drop i).getD 0 0)⟩) ((i + 1 : Nat) : Int) := by
  have p1 : (i : Int) < (b.length : Int) := by omega
  have p2 : (j : Int) < (m.length : Int) := by omega
  have p3 : (j : Int) < (l.length : Int) := by omega
  have p4 : (o : Int) < ((rd_T34 m (j : Int)).f2.length : Int) := by omega
  have p5 : ¬ (j : Int) < 0 := by omega
  have p6 : (0 : Int) ≤ (j : Int) := by omega
  have p7 : (0 : Int) ≤ (i : Int) := by omega
  have p8 : (0 : Int) ≤ (o : Int) := by omega
  rw [sundialref12_Write.l0, if_pos p1, hx, hr, Option.bind_some, if_neg p5, if_pos p6, if_pos p2, if_pos p3, if_pos p7, ho, if_pos p8, if_pos p4, w64s i hi, rd_drop, Int.toNat_natCast, Int.toNat_natCast]
theorem alike_set {l m : List S34} (hal : Alike l m) (j : Nat) (hj : j < m.length) (o : Nat) (v : Int) : Alike l (m.set j ⟨(rd_T34 m (j : Int)).f0, (rd_T34 m (j : Int)).f1, (rd_T34 m (j : Int)).f2.set o v⟩) := by
  have h := hal.put (j, o, 1) [v]
  exact h
theorem writeR_chunk (l : List S34) (hl : l.length ≤ 20) (hs : Small l) (a : Int) (b : List Int) (hb : b.length ≤ 4096) (j : Nat) (hj : j < l.length) : ∀ (c i o k : Nat) (m : List S34), Alike l m → i + c ≤ b.length → 30 ≤ k → o + c ≤ (rd_T34 l (j : Int)).f2.length →
    (∀ t, t < c → byteAt l 2 (IntKind.u64.wrap (a + ((i + t : Nat) : Int))) ≠ none ∧ findP l (IntKind.u64.wrap (a + ((i + t : Nat) : Int))) = (j : Int) ∧ IntKind.u64.wrap (IntKind.u64.wrap (a + ((i + t : Nat) : Int)) - (rd_T34 l (j : Int)).f0) = ((o + t : Nat) : Int)) →
    sundialref12_Write.l0 (k + c) l a b m (i : Int) = sundialref12_Write.l0 k l a b (putOne m (j, o, c) (b.drop i)) ((i + c : Nat) : Int) := by
  intro c
  induction c with
  | zero => intro i o k m hal h1 hk ho ht; rw [put_zero m j o _ (by have := hal.1; omega), Nat.add_zero, Nat.add_zero]
  | succ c ih =>
    intro i o k m hal h1 hk ho ht
    have hjm : j < m.length := by have := hal.1; omega
    have hlm := (hal.at_ j hj).2.2
    obtain ⟨t1, t2, t3⟩ := ht 0 (by omega)
    rw [Nat.add_zero] at t1 t2 t3
    have ih' := ih (i + 1) (o + 1) k _ (alike_set hal j hjm o ((b.drop i).getD 0 0)) (by omega) hk (by omega) (fun t htc => by
        have h := ht (t + 1) (by omega)
        rw [show i + 1 + t = i + (t + 1) by omega, show o + 1 + t = o + (t + 1) by omega]
        exact h)
    clear ih ht
    cases hbb : byteAt l 2 (IntKind.u64.wrap (a + (i : Nat))) with
    | none => exact absurd hbb t1
    | some u =>
      obtain ⟨j', hj', h3, hu, hr⟩ := reached_some hl hbb
      have hjj : j' = j := by omega
      rw [hjj] at hr
      have one := writeR_one l a b m i j o (k + c) _ (wadd a i (by omega)) (hr (k + c) (by omega)) (by omega) hjm hj (by omega) t3 (by omega)
      have hps := put_step m j o c (b.drop i) hjm (by rw [List.length_drop]; omega)
      rw [List.drop_drop] at hps
      have e2 : i + (c + 1) = i + 1 + c := by omega
      rw [hps, e2]
      exact one.trans ih'
theorem writeR (l : List S34) (hl : l.length ≤ 20) (hs : Small l) (hs0 : ∀ x ∈ l, x.f2.length ≤ 4096) (a : Int) (most : Int) (hst : Steady l most) (hm1 : 1 ≤ most) (b : List Int) (hb : b.length ≤ 4096) : ∀ (f i k : Nat) (m : List S34), b.length - i ≤ f → i ≤ b.length → Alike l m → b.length - i + 50 ≤ k →
    sundialref12_Write.l0 k l a b m (i : Int) = if countP (chunks l 2 most f (IntKind.u64.wrap (a + (i : Nat))) ((b.length - i : Nat) : Int)) = b.length - i then some (putAllP (chunks l 2 most f (IntKind.u64.wrap (a + (i : Nat))) ((b.length - i : Nat) : Int)) m (b.drop i), 0) else some (l, 121) := by
  intro f
  have done : ∀ (k : Nat) (m : List S34), 1 ≤ k → sundialref12_Write.l0 k l a b m (b.length : Int) = some (m, 0) := fun k m hk => by
    obtain ⟨k, rfl⟩ : ∃ z, k = z + 1 := ⟨k - 1, by omega⟩
    rw [sundialref12_Write.l0, if_neg (by omega)]
  induction f with
  | zero =>
    intro i k m h hi hal hk
    obtain rfl : i = b.length := by omega
    rw [done k m (by omega), Nat.sub_self, if_pos (by rfl)]
    rfl
  | succ f ih =>
    intro i k m h hi hal hk
    by_cases hib : i = b.length
    · subst hib
      have hE0 : chunks l 2 most (f + 1) (IntKind.u64.wrap (a + (b.length : Nat))) ((b.length - b.length : Nat) : Int) = [] := by rw [chunks, if_pos (by omega)]
      rw [done k m (by omega), hE0, if_pos (by simp [countP])]
      rfl
    obtain ⟨x, hx⟩ : ∃ x, IntKind.u64.wrap (a + (i : Nat)) = x := ⟨_, rfl⟩
    have hxr : InR x := by rw [← hx]; exact InR.w _
    have stop : byteAt l 2 x = none → sundialref12_Write.l0 k l a b m (i : Int) = some (l, 121) := fun hbn => by
      obtain ⟨k, rfl⟩ : ∃ z, k = z + 1 := ⟨k - 1, by omega⟩
      rw [sundialref12_Write.l0, if_pos (by omega), wadd a i (by omega), hx, reached_none hl hbn k (by omega), Option.bind_some, if_pos (by omega), own_some l hl hs0 k (by omega), Option.bind_some]
    rw [hx]
    rcases find_cases l x hs hxr with ⟨h1, _⟩ | ⟨j, hj, h1, h2, h3, h4⟩
    · have hE0 : chunks l 2 most (f + 1) x ((b.length - i : Nat) : Int) = [] := by rw [chunks, if_neg (by omega), if_pos (by omega)]
      rw [stop (by rw [byteAt_cell, if_pos (by omega)]), hE0, if_neg (by simp [countP]; omega)]
    by_cases hp : Go.bits .and .u8 (rd_T34 l (j : Int)).f1 2 = 0
    · have hE0 : chunks l 2 most (f + 1) x ((b.length - i : Nat) : Int) = [] := by rw [chunks, if_neg (by omega), if_neg (by omega), h1, if_pos hp]
      rw [stop (by rw [byteAt_cell, h1, if_neg (by omega), if_pos hp]), hE0, if_neg (by simp [countP]; omega)]
    clear stop
    obtain ⟨o, ho, hol, hxo⟩ := in_page hs hxr hj h1
    have hlen := (hs _ (rd_mem hj)).2
    obtain ⟨c, hc⟩ : ∃ c, c = min (min ((rd_T34 l (j : Int)).f2.length - o) ((b.length - i : Nat) : Int).toNat) most.toNat := ⟨_, rfl⟩
    have hE : chunks l 2 most (f + 1) x ((b.length - i : Nat) : Int) = (j, o, c) :: chunks l 2 most f (IntKind.u64.wrap (x + (c : Int))) (((b.length - i : Nat) : Int) - (c : Int)) := by
      rw [chunks, if_neg (by omega), if_neg (by omega), h1, if_neg hp, ho]
      simp only [Int.toNat_natCast] at hc ⊢
      rw [← hc]
    rw [Int.toNat_natCast] at hc
    have hcc : 1 ≤ c ∧ c ≤ (rd_T34 l (j : Int)).f2.length - o ∧ c ≤ b.length - i ∧ c ≤ most.toNat := by omega
    have hxa : IntKind.u64.wrap (x + (c : Int)) = IntKind.u64.wrap (a + ((i + c : Nat) : Int)) := by rw [← hx, wrap_add]; congr 1; omega
    rw [hE, hxa, show ((b.length - i : Nat) : Int) - (c : Int) = ((b.length - (i + c) : Nat) : Int) by omega]
    obtain ⟨k', rfl⟩ : ∃ z, k = z + c := ⟨k - c, by omega⟩
    rw [writeR_chunk l hl hs a b hb j hj c i o k' m hal (by omega) (by omega) (by omega) (fun t htc => by
      obtain ⟨hA, hF⟩ := hst x j hxr h1 hj t (by omega) (by omega)
      have e : IntKind.u64.wrap (a + ((i + t : Nat) : Int)) = x + (t : Int) := by
        rw [← hA.id, ← hx, wrap_add]; congr 1; omega
      rw [e]
      refine ⟨by rw [byteAt_cell, hF, if_neg (by omega), if_neg hp]; simp, hF, ?_⟩
      unfold InR at hA
      rw [u64w]; omega)]
    rw [ih (i + c) k' _ (by omega) (by omega) (hal.put _ _) (by omega)]
    rw [show putAllP ((j, o, c) :: chunks l 2 most f (IntKind.u64.wrap (a + ((i + c : Nat) : Int))) ((b.length - (i + c) : Nat) : Int)) m (b.drop i) = putAllP (chunks l 2 most f (IntKind.u64.wrap (a + ((i + c : Nat) : Int))) ((b.length - (i + c) : Nat) : Int)) (putOne m (j, o, c) (b.drop i)) ((b.drop i).drop c) from rfl]
    rw [List.drop_drop]
    rw [show countP ((j, o, c) :: chunks l 2 most f (IntKind.u64.wrap (a + ((i + c : Nat) : Int))) ((b.length - (i + c) : Nat) : Int)) = c + countP (chunks l 2 most f (IntKind.u64.wrap (a + ((i + c : Nat) : Int))) ((b.length - (i + c) : Nat) : Int)) by unfold countP; simp]
    by_cases hq : countP (chunks l 2 most f (IntKind.u64.wrap (a + ((i + c : Nat) : Int))) ((b.length - (i + c) : Nat) : Int)) = b.length - (i + c)
    · rw [if_pos hq, if_pos (by omega)]
    · rw [if_neg hq, if_neg (by omega)]
end Go.Proofs.Ytkpkgpopmodagaa.B
