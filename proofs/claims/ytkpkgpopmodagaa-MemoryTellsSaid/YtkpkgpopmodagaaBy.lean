import Derived.Test.YtkpkgpopmodagaaOpenK
namespace Go.Proofs.Ytkpkgpopmodagaa.B
open Go.RowKit Go.Proofs.YtkpkgpopmodagaaW.PrintWords Go.Proofs.YtkpkgpopmodagaaW.PrintLast Go.Proofs.YtkpkgpopmodagaaW.PrintMore Go.RF
set_option linter.unusedVariables false
set_option linter.unusedSimpArgs false

def InR (a : Int) : Prop := 0 ≤ a ∧ a < 18446744073709551616
theorem u64w (x : Int) : IntKind.u64.wrap x = x % 18446744073709551616 := by unfold IntKind.wrap; simp [IntKind.signed, IntKind.bits]
theorem InR.w (x : Int) : InR (IntKind.u64.wrap x) := by rw [u64w]; unfold InR; omega
theorem InR.id {x : Int} (h : InR x) : IntKind.u64.wrap x = x := by rw [u64w]; unfold InR at h; omega
theorem wrap_add (x y : Int) : IntKind.u64.wrap (IntKind.u64.wrap x + y) = IntKind.u64.wrap (x + y) := by simp only [u64w]; omega

/-- The byte that may be reached at an address. -/
def byteAt (l : List S34) (perm a : Int) : Option Int :=
  if findP l a < 0 then none else if Go.bits .and .u8 (rd_T34 l (findP l a)).f1 perm = 0 then none else some ((rd_T34 l (findP l a)).f2.getD (IntKind.u64.wrap (a - (rd_T34 l (findP l a)).f0)).toNat 0)
def bytesAt (l : List S34) (perm : Int) : Nat → Int → List Int
  | 0, _ => []
  | n + 1, a => match byteAt l perm a with
    | none => []
    | some b => b :: bytesAt l perm n (IntKind.u64.wrap (a + 1))
theorem bytesAt_none {l : List S34} {perm a : Int} (n : Nat) (h : byteAt l perm a = none) : bytesAt l perm (n + 1) a = [] := by simp [bytesAt, h]
theorem bytesAt_some {l : List S34} {perm a b : Int} (n : Nat) (h : byteAt l perm a = some b) : bytesAt l perm (n + 1) a = b :: bytesAt l perm n (IntKind.u64.wrap (a + 1)) := by rw [bytesAt, h]
theorem bytesAt_le (l : List S34) (perm : Int) : ∀ (n : Nat) (a : Int), (bytesAt l perm n a).length ≤ n
  | 0, _ => by simp [bytesAt]
  | n + 1, a => by
    unfold bytesAt
    split
    · simp
    · have := bytesAt_le l perm n (IntKind.u64.wrap (a + 1))
      simp; omega
theorem bytesAt_add (l : List S34) (perm : Int) : ∀ (m n : Nat) (a : Int), InR a → bytesAt l perm (m + n) a = if (bytesAt l perm m a).length = m then bytesAt l perm m a ++ bytesAt l perm n (IntKind.u64.wrap (a + m)) else bytesAt l perm m a
  | 0, n, a, h => by simp [bytesAt, h.id]
  | m + 1, n, a, h => by
    rw [show m + 1 + n = (m + n) + 1 by omega]
    cases hb : byteAt l perm a with
    | none => rw [bytesAt_none _ hb, bytesAt_none _ hb]; simp
    | some b =>
      rw [bytesAt_some _ hb, bytesAt_some _ hb, bytesAt_add l perm m n _ (InR.w _)]
      rw [wrap_add, show a + 1 + (m : Int) = a + ((m + 1 : Nat) : Int) by omega]
      by_cases hl : (bytesAt l perm m (IntKind.u64.wrap (a + 1))).length = m
      · rw [if_pos hl, if_pos (by simp [hl])]; rfl
      · rw [if_neg hl, if_neg (by simpa using hl)]
theorem bytesAt_append (l : List S34) (perm : Int) : ∀ (xs : List Int) (m : Nat) (a : Int), InR a → (∀ i, i < xs.length → byteAt l perm (IntKind.u64.wrap (a + (i : Nat))) = xs[i]?) →
    bytesAt l perm (xs.length + m) a = xs ++ bytesAt l perm m (IntKind.u64.wrap (a + xs.length))
  | [], m, a, h, _ => by simp [h.id]
  | x :: r, m, a, h, hx => by
    have h0 := hx 0 (by simp)
    rw [show IntKind.u64.wrap (a + ((0 : Nat) : Int)) = a by rw [Int.natCast_zero, Int.add_zero]; exact h.id] at h0
    have ih := bytesAt_append l perm r m (IntKind.u64.wrap (a + 1)) (InR.w _) (fun i hi => by
      have := hx (i + 1) (by simp; omega)
      rw [wrap_add, show a + 1 + (i : Int) = a + ((i + 1 : Nat) : Int) by omega, this]
      simp)
    rw [show (x :: r).length + m = (r.length + m) + 1 by simp; omega]
    rw [bytesAt_some _ (b := x) (by simpa using h0), ih, List.cons_append]
    rw [wrap_add, show a + 1 + (r.length : Int) = a + ((x :: r).length : Int) by simp; omega]
/-- Once what is read is cut short, nothing is there. -/
theorem bytesAt_get (l : List S34) (perm : Int) : ∀ (n : Nat) (a : Int) (i : Nat) (u : Int), InR a → (bytesAt l perm n a)[i]? = some u → byteAt l perm (IntKind.u64.wrap (a + (i : Nat))) = some u
  | 0, _, i, u, _, h => by simp [bytesAt] at h
  | n + 1, a, i, u, hr, h => by
    unfold bytesAt at h
    split at h
    · simp at h
    · rename_i b hb
      cases i with
      | zero =>
        rw [Int.natCast_zero, Int.add_zero, hr.id, hb]
        simpa using h
      | succ i =>
        have := bytesAt_get l perm n _ i u (InR.w _) (by simpa using h)
        rw [wrap_add, show a + 1 + (i : Int) = a + ((i + 1 : Nat) : Int) by omega] at this
        exact this
theorem bytesAt_stop (l : List S34) (perm : Int) : ∀ (n : Nat) (a : Int), InR a → (bytesAt l perm n a).length < n → byteAt l perm (IntKind.u64.wrap (a + ((bytesAt l perm n a).length : Nat))) = none
  | 0, _, _, h => by omega
  | n + 1, a, hr, h => by
    unfold bytesAt at h ⊢
    split at h
    · rename_i hb
      simp [hb, hr.id]
    · rename_i b hb
      have := bytesAt_stop l perm n _ (InR.w _) (by simpa using h)
      rw [wrap_add] at this
      simp only [hb, List.length_cons]
      rw [← this]
      congr 2
      omega

def Small (l : List S34) : Prop := ∀ x ∈ l, InR x.f0 ∧ x.f2.length ≤ 4096
theorem rd_get {l : List S34} {j : Nat} (h : j < l.length) : l[j]? = some (rd_T34 l (j : Int)) := by simp [rd_T34, List.getD_eq_getElem?_getD, List.getElem?_eq_getElem h]
theorem rd_mem {l : List S34} {j : Nat} (h : j < l.length) : rd_T34 l (j : Int) ∈ l := List.mem_of_getElem? (rd_get h)
theorem onPage_iff {x : S34} {a : Int} (hx : InR x.f0 ∧ x.f2.length ≤ 4096) (ha : InR a) : onPage a x = true ↔ x.f0 ≤ a ∧ a - x.f0 < x.f2.length := by
  unfold onPage
  unfold InR at hx ha
  rw [Bool.and_eq_true, decide_eq_true_iff, decide_eq_true_iff, u64w, u64w]
  omega
theorem firstAt_all (p : S34 → Bool) : ∀ (l : List S34) (k : Nat), (firstAt p l k = -1 ∧ ∀ x ∈ l, p x = false) ∨ ∃ j, j < l.length ∧ firstAt p l k = ((k + j : Nat) : Int) ∧ (∃ x, l[j]? = some x ∧ p x = true) ∧ ∀ i, i < j → ∀ x, l[i]? = some x → p x = false
  | [], k => .inl ⟨rfl, by simp⟩
  | x :: r, k => by
    unfold firstAt
    by_cases h : p x = true
    · exact .inr ⟨0, by simp, by simp [h], ⟨x, rfl, h⟩, fun i hi => by omega⟩
    · rw [if_neg h]
      have hx : p x = false := by simpa using h
      rcases firstAt_all p r (k + 1) with ⟨h1, h2⟩ | ⟨j, hj, h1, ⟨y, hy, hp⟩, h3⟩
      · exact .inl ⟨h1, fun y hy => (List.mem_cons.1 hy).elim (fun e => by rw [e]; exact hx) (fun h => h2 y h)⟩
      · refine .inr ⟨j + 1, by simp; omega, by rw [h1]; congr 1; omega, ⟨y, by simpa using hy, hp⟩, fun i hi z hz => ?_⟩
        cases i with
        | zero => simp at hz; subst hz; exact hx
        | succ i => exact h3 i (by omega) z (by simpa using hz)
theorem firstAt_eq (p : S34 → Bool) : ∀ (l : List S34) (k j : Nat) (x : S34), l[j]? = some x → p x = true → (∀ i, i < j → ∀ y, l[i]? = some y → p y = false) → firstAt p l k = ((k + j : Nat) : Int)
  | [], _, _, _, h, _, _ => by simp at h
  | x :: r, k, 0, y, h, hp, _ => by simp at h; subst h; simp [firstAt, hp]
  | x :: r, k, j + 1, y, h, hp, hn => by
    have h0 := hn 0 (by omega) x rfl
    unfold firstAt
    rw [h0, if_neg (by simp), firstAt_eq p r (k + 1) j y (by simpa using h) hp (fun i hi z hz => hn (i + 1) (by omega) z (by simpa using hz))]
    congr 1; omega
theorem find_cases (l : List S34) (a : Int) (hs : Small l) (ha : InR a) : (findP l a = -1 ∧ ∀ x ∈ l, ¬ (x.f0 ≤ a ∧ a - x.f0 < x.f2.length)) ∨
    ∃ j : Nat, j < l.length ∧ findP l a = (j : Int) ∧ (rd_T34 l (j : Int)).f0 ≤ a ∧ a - (rd_T34 l (j : Int)).f0 < (rd_T34 l (j : Int)).f2.length ∧ ∀ i : Nat, i < j → ¬ ((rd_T34 l (i : Int)).f0 ≤ a ∧ a - (rd_T34 l (i : Int)).f0 < (rd_T34 l (i : Int)).f2.length) := by
  unfold findP
  rcases firstAt_all (onPage a) l 0 with ⟨h1, h2⟩ | ⟨j, hj, h1, ⟨x, hx, hp⟩, h3⟩
  · exact .inl ⟨h1, fun x hx h => by have := h2 x hx; rw [(onPage_iff (hs x hx) ha).2 h] at this; cases this⟩
  · have e := rd_get hj
    rw [hx] at e
    injection e with e
    subst e
    have hpp := (onPage_iff (hs _ (rd_mem hj)) ha).1 hp
    refine .inr ⟨j, hj, by rw [h1, Nat.zero_add], hpp.1, hpp.2, fun i hi h => ?_⟩
    have := h3 i hi _ (rd_get (by omega))
    rw [(onPage_iff (hs _ (rd_mem (by omega))) ha).2 h] at this
    cases this
theorem find_eq {l : List S34} {a : Int} {j : Nat} (hs : Small l) (ha : InR a) (hj : j < l.length) (h1 : (rd_T34 l (j : Int)).f0 ≤ a ∧ a - (rd_T34 l (j : Int)).f0 < (rd_T34 l (j : Int)).f2.length)
    (h2 : ∀ i : Nat, i < j → ¬ ((rd_T34 l (i : Int)).f0 ≤ a ∧ a - (rd_T34 l (i : Int)).f0 < (rd_T34 l (i : Int)).f2.length)) : findP l a = (j : Int) := by
  unfold findP
  rw [firstAt_eq (onPage a) l 0 j _ (rd_get hj) ((onPage_iff (hs _ (rd_mem hj)) ha).2 h1) (fun i hi y hy => ?_), Nat.zero_add]
  have hil : i < l.length := (List.getElem?_eq_some_iff.1 hy).1
  rw [rd_get hil] at hy
  injection hy with hy
  subst hy
  cases hc : onPage a (rd_T34 l (i : Int)) with
  | false => rfl
  | true => exact absurd ((onPage_iff (hs _ (rd_mem hil)) ha).1 hc) (h2 i hi)

/-- An address further on in the page is in the page, too. -/
def Steady (l : List S34) (most : Int) : Prop := ∀ (a : Int) (j : Nat), InR a → findP l a = (j : Int) → j < l.length → ∀ i : Nat, a - (rd_T34 l (j : Int)).f0 + i < (rd_T34 l (j : Int)).f2.length → (i = 0 ∨ 1 < most) → InR (a + i) ∧ findP l (a + i) = (j : Int)
theorem right_pages : ∀ (l : List S34) (first : Bool) (prev : Int), rightFrom first prev l = true → (first = false → ∀ x ∈ l, prev < x.f0) ∧ List.Pairwise (fun x y => x.f0 < y.f0) l ∧ ∀ x ∈ l, x.f0.tmod 4096 = 0 ∧ x.f2.length = 4096
  | [], _, _, _ => ⟨by simp, by simp, by simp⟩
  | x :: r, first, prev, h => by
    unfold rightFrom at h
    rw [Bool.and_eq_true] at h
    obtain ⟨h1, h2⟩ := h
    obtain ⟨i1, i2, i3⟩ := right_pages r false x.f0 h2
    have h3 : x.f0.tmod 4096 = 0 ∧ x.f2.length = 4096 ∧ x.f1 < 8 ∧ (Go.bits .and .u8 x.f1 3 ≠ 3) ∧ (first = true ∨ prev < x.f0) := by simpa [pageB] using h1
    refine ⟨fun hf y hy => ?_, List.pairwise_cons.2 ⟨fun y hy => i1 rfl y hy, i2⟩, fun y hy => ?_⟩
    · have hp : prev < x.f0 := by rcases h3.2.2.2.2 with h | h; (rw [hf] at h; cases h); exact h
      rcases List.mem_cons.1 hy with rfl | hy
      · exact hp
      · have := i1 rfl y hy; omega
    · rcases List.mem_cons.1 hy with rfl | hy
      · exact ⟨h3.1, h3.2.1⟩
      · exact i3 y hy
theorem steady (l : List S34) (n : Int) (hs : Small l) : Steady l (mostP l n) := by
  intro a j ha hf hj i hi hm
  rcases find_cases l a hs ha with ⟨h1, _⟩ | ⟨j', hj', h1, h2, h3, h4⟩
  · omega
  obtain rfl : j' = j := by omega
  rcases hm with rfl | hm
  · rw [Int.natCast_zero, Int.add_zero]; exact ⟨ha, hf⟩
  have hr : rightP l = true := by
    cases h : rightP l with
    | true => rfl
    | false => unfold mostP at hm; rw [h] at hm; simp at hm
  unfold rightP at hr
  rw [Bool.and_eq_true] at hr
  obtain ⟨_, p2, p3⟩ := right_pages l true 0 hr.2
  obtain ⟨q1, q2⟩ := p3 _ (rd_mem hj)
  have q3 := (hs _ (rd_mem hj)).1
  unfold InR at ha q3
  have q4 : (rd_T34 l (j' : Int)).f0 % 4096 = 0 := by rw [Int.tmod_eq_emod_of_nonneg q3.1] at q1; exact q1
  have hA : InR (a + i) := by unfold InR; omega
  refine ⟨hA, find_eq hs hA hj ⟨by omega, by omega⟩ (fun i' hi' hc => ?_)⟩
  have hil : i' < l.length := by omega
  obtain ⟨r1, r2⟩ := p3 _ (rd_mem hil)
  have r3 := (hs _ (rd_mem hil)).1
  unfold InR at r3
  have r4 : (rd_T34 l (i' : Int)).f0 % 4096 = 0 := by rw [Int.tmod_eq_emod_of_nonneg r3.1] at r1; exact r1
  have hlt : (rd_T34 l (i' : Int)).f0 < (rd_T34 l (j' : Int)).f0 := by
    have g1 := rd_get hil
    have g2 := rd_get hj
    rw [List.getElem?_eq_getElem hil] at g1
    rw [List.getElem?_eq_getElem hj] at g2
    injection g1 with g1
    injection g2 with g2
    rw [← g1, ← g2]
    exact List.pairwise_iff_getElem.1 p2 i' j' hil hj hi'
  omega

theorem gather_bytes (l : List S34) (perm most : Int) (hs : Small l) (hst : Steady l most) : ∀ (f : Nat) (a n : Int), InR a → n.toNat ≤ f → (0 < n → 1 ≤ most) → gatherP l (chunks l perm most f a n) = bytesAt l perm n.toNat a
  | 0, a, n, ha, hf, hm => by rw [show n.toNat = 0 by omega]; rfl
  | f + 1, a, n, ha, hf, hm => by
    by_cases hn : n ≤ 0
    · rw [show n.toNat = 0 by omega]; unfold chunks; rw [if_pos hn]; rfl
    have hm1 := hm (by omega)
    obtain ⟨m, hm'⟩ : ∃ m, n.toNat = m + 1 := ⟨n.toNat - 1, by omega⟩
    rcases find_cases l a hs ha with ⟨h1, _⟩ | ⟨j, hj, h1, h2, h3, h4⟩
    · unfold chunks; rw [if_neg hn, if_pos (by omega), hm']
      unfold bytesAt byteAt
      rw [if_pos (by omega)]
      rfl
    by_cases hb : Go.bits .and .u8 (rd_T34 l (j : Int)).f1 perm = 0
    · unfold chunks; rw [if_neg hn, if_neg (by omega), h1, if_pos hb, hm']
      unfold bytesAt byteAt
      rw [if_neg (by omega), h1, if_pos hb]
      rfl
    have hlen := (hs _ (rd_mem hj)).2
    have hf0 := (hs _ (rd_mem hj)).1
    unfold InR at ha hf0
    obtain ⟨o, ho⟩ : ∃ o : Nat, a - (rd_T34 l (j : Int)).f0 = (o : Int) := ⟨(a - (rd_T34 l (j : Int)).f0).toNat, by omega⟩
    have how : IntKind.u64.wrap (a - (rd_T34 l (j : Int)).f0) = (o : Int) := by rw [u64w]; omega
    unfold chunks; rw [if_neg hn, if_neg (by omega), h1, if_neg hb, how]
    simp only [Int.toNat_natCast]
    obtain ⟨c, hc⟩ : ∃ c, c = min (min ((rd_T34 l (j : Int)).f2.length - o) n.toNat) most.toNat := ⟨_, rfl⟩
    rw [← hc]
    have hc1 : 1 ≤ c ∧ c ≤ (rd_T34 l (j : Int)).f2.length - o ∧ c ≤ n.toNat ∧ c ≤ most.toNat := by omega
    rw [show gatherP l ((j, o, c) :: chunks l perm most f (IntKind.u64.wrap (a + (c : Int))) (n - (c : Int))) = bytesP l (j, o, c) ++ gatherP l (chunks l perm most f (IntKind.u64.wrap (a + (c : Int))) (n - (c : Int))) by rfl]
    rw [gather_bytes l perm most hs hst f _ _ (InR.w _) (by omega) (fun _ => hm1)]
    have hbl : (bytesP l (j, o, c)).length = c := by unfold bytesP; simp only [List.length_take, List.length_drop]; omega
    have := bytesAt_append l perm (bytesP l (j, o, c)) (n - (c : Int)).toNat a ha (fun i hi => by
      rw [hbl] at hi
      obtain ⟨hA, hF⟩ := hst a j ha h1 hj i (by omega) (by omega)
      rw [hA.id]
      unfold byteAt
      rw [if_neg (by omega), hF, if_neg hb]
      have e : IntKind.u64.wrap (a + (i : Int) - (rd_T34 l (j : Int)).f0) = ((o + i : Nat) : Int) := by rw [u64w]; unfold InR at hA; omega
      rw [e, Int.toNat_natCast, bytesP_get l (j, o, c) i hi (by show o + c ≤ (rd_T34 l (j : Int)).f2.length; omega)])
    rw [hbl] at this
    rw [← this]
    congr 1
    omega
theorem gatherP_bytes (l : List S34) (a n perm : Int) (hs : Small l) (ha : InR a) : gatherP l (chunksP l a n perm) = bytesAt l perm n.toNat a :=
  gather_bytes l perm _ hs (steady l n hs) _ a n ha (Nat.le_refl _) (fun h => by unfold mostP; split <;> omega)
end Go.Proofs.Ytkpkgpopmodagaa.B
