import Derived.Test.YtkpkgpopmodagaaOwn
import Derived.Laws.CopyOwn
import Derived.Shelf.RegionOpen
namespace Go.Proofs.Ytkpkgpopmodagaa.B
open Go.RowKit Go.Proofs.YtkpkgpopmodagaaW.PrintWords Go.Proofs.YtkpkgpopmodagaaW.PrintLast Go.Proofs.YtkpkgpopmodagaaW.PrintMore Go.RF
set_option linter.unusedVariables false
set_option linter.unusedSimpArgs false
attribute [local go_sem] Oper.semAt_some

/-- A list with others put over it, from a place on. -/
def over {α : Type} : List α → Nat → List α → List α
  | xs, _, [] => xs
  | xs, o, y :: ys => over (xs.set o y) (o + 1) ys
theorem over_length {α : Type} : ∀ (ys xs : List α) (o : Nat), (over xs o ys).length = xs.length
  | [], _, _ => rfl
  | y :: ys, xs, o => by rw [over, over_length ys]; simp
theorem over_map {α β : Type} (f : α → β) : ∀ (ys xs : List α) (o : Nat), (over xs o ys).map f = over (xs.map f) o (ys.map f)
  | [], _, _ => rfl
  | y :: ys, xs, o => by simp only [over, over_map f ys, List.map_cons, List.map_set]
theorem own_over {base e n cap g : Nat} : ∀ (cs : List Value) (W : World) (xs : List Value) (o : Nat), W.ownsRow base e 1 (.slice (some ⟨g, 0, none⟩) n cap) n xs →
    (W.setCells g o cs).ownsRow base e 1 (.slice (some ⟨g, 0, none⟩) n cap) n (over xs o cs)
  | [], _, _, _, h => h
  | c :: cs, W, xs, o, h => own_over cs _ _ _ (h.stored o c).1
theorem keeps_over {g : Nat} : ∀ (cs : List Value) (W : World) (o : Nat), Keeps (fun k => k = g) W (W.setCells g o cs)
  | [], W, _ => Keeps.refl _ _
  | c :: cs, W, o => ((Keeps.refl (fun k => k = g) W).setCell ⟨g, o, none⟩ c (by rfl)).trans (keeps_over cs _ _)
/-- One part written: the page, and what is left. -/
def putOne (l : List S34) (x : Nat × Nat × Nat) (b : List Int) : List S34 :=
  l.set x.1 ⟨(rd_T34 l (x.1 : Int)).f0, (rd_T34 l (x.1 : Int)).f1, over (rd_T34 l (x.1 : Int)).f2 x.2.1 (b.take x.2.2)⟩
def putAllP : List (Nat × Nat × Nat) → List S34 → List Int → List S34
  | [], l, _ => l
  | x :: r, l, b => putAllP r (putOne l x b) (b.drop x.2.2)
def countP (cs : List (Nat × Nat × Nat)) : Nat := (cs.map (·.2.2)).sum
theorem putAllP_snoc (x : Nat × Nat × Nat) : ∀ (cs : List (Nat × Nat × Nat)) (l : List S34) (b : List Int), putAllP (cs ++ [x]) l b = putOne (putAllP cs l b) x (b.drop (countP cs))
  | [], l, b => by simp [putAllP, countP]
  | y :: r, l, b => by
    simp only [List.cons_append, putAllP, putAllP_snoc x r, List.drop_drop]
    congr 2
/-- pages with the same heads -/
def Alike (l m : List S34) : Prop := l.length = m.length ∧ ∀ (j : Nat) (x y : S34), l[j]? = some x → m[j]? = some y → x.f0 = y.f0 ∧ x.f1 = y.f1 ∧ x.f2.length = y.f2.length
theorem Alike.refl (l : List S34) : Alike l l := ⟨rfl, fun j x y h h' => by rw [h] at h'; injection h' with h'; subst h'; exact ⟨rfl, rfl, rfl⟩⟩
theorem Alike.put {l m : List S34} (h : Alike l m) (x : Nat × Nat × Nat) (b : List Int) : Alike l (putOne m x b) := by
  refine ⟨by rw [putOne, List.length_set]; exact h.1, fun j y z hy hz => ?_⟩
  unfold putOne at hz
  rw [List.getElem?_set] at hz
  split at hz
  · rename_i e
    split at hz
    · rename_i hlt
      injection hz with hz
      subst hz
      subst e
      have hm : m[x.1]? = some (rd_T34 m (x.1 : Int)) := by simp [rd_T34, List.getD_eq_getElem?_getD, List.getElem?_eq_getElem hlt]
      obtain ⟨h1, h2, h3⟩ := h.2 _ _ _ hy hm
      exact ⟨h1, h2, by rw [h3, over_length]⟩
    · cases hz
  · exact h.2 j y z hy hz
theorem Alike.putAll {l : List S34} : ∀ (cs : List (Nat × Nat × Nat)) {m : List S34} (b : List Int), Alike l m → Alike l (putAllP cs m b)
  | [], _, _, h => h
  | x :: r, _, b, h => Alike.putAll r _ (h.put x b)
theorem heads_alike (hs : Nat → Option Addr × Nat) : ∀ (l m : List S34) (k : Nat), Alike l m → heads hs l k = heads hs m k
  | [], [], _, _ => rfl
  | [], _ :: _, _, h => by simpa using h.1
  | _ :: _, [], _, h => by simpa using h.1
  | x :: r, y :: s, k, h => by
    obtain ⟨h1, h2, h3⟩ := h.2 0 x y rfl rfl
    simp only [heads, h1, h2, h3]
    rw [heads_alike hs r s (k + 1) ⟨by simpa using h.1, fun j a b ha hb => h.2 (j + 1) a b (by simpa using ha) (by simpa using hb)⟩]

/-- The blocks of pages of one's own. -/
def pagesAt (v : Value) (l : List S34) (hs : Nat → Option Addr × Nat) (k : Nat) : Prop := v.ownBlock = some k ∨ ∃ j, j < l.length ∧ (Value.slice (hs j).1 0 0).ownBlock = some k
theorem PO.lt {W : World} {base : Nat} {v : Value} {l : List S34} {hs : Nat → Option Addr × Nat} (h : PO W base v l hs) (k : Nat) (hk : pagesAt v l hs k) : base ≤ k ∧ k < W.heap.size := by
  rcases hk with hk | ⟨j, hj, hk⟩
  · exact ⟨own_base h.own k hk, own_lt h.own k hk⟩
  · have hd := h.data j _ (List.getElem?_eq_getElem hj)
    exact ⟨own_base hd k (by rw [← hk]; exact ownBlock_any _ _ _ _ _), own_lt hd k (by rw [← hk]; exact ownBlock_any _ _ _ _ _)⟩
theorem PO.keep {W W' : World} {base : Nat} {v : Value} {l : List S34} {hs : Nat → Option Addr × Nat} {S : Nat → Prop} (h : PO W base v l hs) (hk : Keeps S W W') (hS : ∀ k, pagesAt v l hs k → ¬ S k) : PO W' base v l hs :=
  ⟨own_move h.own (fun k hb => hk.block k (own_lt h.own k hb) (hS k (.inl hb))),
   fun j x hx => own_move (h.data j x hx) (fun k hb => hk.block k (own_lt (h.data j x hx) k hb) (hS k (.inr ⟨j, (List.getElem?_eq_some_iff.1 hx).1, by rw [← hb]; exact ownBlock_any _ _ _ _ _⟩))), h.apart⟩
theorem PO.put {W : World} {base : Nat} {v : Value} {l : List S34} {hs : Nat → Option Addr × Nat} (h : PO W base v l hs) (x : Nat × Nat × Nat) (hx : x.1 < l.length) (D : Nat) (hD : (hs x.1).1 = some ⟨D, 0, none⟩) (b : List Int) :
    PO (W.setCells D x.2.1 (nums .u8 (b.take x.2.2))) base v (putOne l x b) hs := by
  have hxl : l[x.1]? = some (rd_T34 l (x.1 : Int)) := by simp [rd_T34, List.getD_eq_getElem?_getD, List.getElem?_eq_getElem hx]
  have hk := keeps_over (g := D) (nums .u8 (b.take x.2.2)) W x.2.1
  have hal := (Alike.refl l).put x b
  have hdx := h.data x.1 _ hxl
  rw [hD] at hdx
  refine ⟨?_, fun j y hy => ?_, fun i j hi hj => h.apart i j (by rw [hal.1]; exact hi) (by rw [hal.1]; exact hj)⟩
  · rw [← heads_alike hs l _ 0 hal, ← hal.1]
    refine own_move h.own (fun k hb => hk.block k (own_lt h.own k hb) (fun e => ?_))
    subst e
    rcases own_type_ne h.own hdx (by decide) with h' | h'
    · rw [h'] at hb; cases hb
    · exact h' hb
  · by_cases e : j = x.1
    · subst e
      have hy' : y = ⟨(rd_T34 l (x.1 : Int)).f0, (rd_T34 l (x.1 : Int)).f1, over (rd_T34 l (x.1 : Int)).f2 x.2.1 (b.take x.2.2)⟩ := by
        unfold putOne at hy
        rw [List.getElem?_set, if_pos rfl, if_pos hx] at hy
        injection hy with hy
        exact hy.symm
      have := own_over (nums .u8 (b.take x.2.2)) W _ x.2.1 hdx
      rw [hy', hD]
      simp only [over_length]
      have e2 : nums .u8 (over (rd_T34 l (x.1 : Int)).f2 x.2.1 (b.take x.2.2)) = over (nums .u8 (rd_T34 l (x.1 : Int)).f2) x.2.1 (nums .u8 (b.take x.2.2)) := over_map _ _ _ _
      rw [e2]
      exact this
    · have hy' : l[j]? = some y := by
        unfold putOne at hy
        rw [List.getElem?_set, if_neg (Ne.symm e)] at hy
        exact hy
      have hdj := h.data j y hy'
      refine own_move hdj (fun k hb => hk.block k (own_lt hdj k hb) (fun e' => ?_))
      subst e'
      exact h.apart j x.1 (List.getElem?_eq_some_iff.1 hy').1 hx e k (by rw [← hb]; exact ownBlock_any _ _ _ _ _) (by rw [hD]; rfl)
/-- Pages of one's own, as the print tells them. -/
theorem PO.S_ {W : World} {base : Nat} {v : Value} {l : List S34} {hs : Nat → Option Addr × Nat} (h : PO W base v l hs) : Kd.S k34 34 W base (fun _ => True) v l := by
  classical
  refine ⟨fun k => if hk : ∃ j, j < l.length ∧ (Value.slice (hs j).1 0 0).ownBlock = some k then Classical.choose hk else 0, fun _ _ => trivial, heads hs l 0, by rw [List.length_zipIdx]; exact h.own, by rw [List.length_zipIdx]; exact heads_length hs l 0, fun j p hp => ?_⟩
  rw [List.getElem?_zipIdx] at hp
  obtain ⟨x, hx, e⟩ := Option.map_eq_some_iff.1 hp
  subst e
  simp only [Nat.zero_add]
  obtain ⟨g1, g2, g3⟩ := heads_get hs l 0 j x hx
  rw [Nat.zero_add] at g3
  have hl : j < l.length := (List.getElem?_eq_some_iff.1 hx).1
  have hlen := heads_length hs l 0
  have hcs : ((heads hs l 0).drop (j * 3)).take 3 = [.int .u64 x.f0, .int .u8 x.f1, .slice (hs j).1 x.f2.length (hs j).2] := by
    apply List.ext_getElem?
    intro i
    rw [List.getElem?_take]
    by_cases hi : i < 3
    · rw [if_pos hi, List.getElem?_drop]
      rcases (by omega : i = 0 ∨ i = 1 ∨ i = 2) with rfl | rfl | rfl
      · simpa using g1
      · simpa using g2
      · simpa using g3
    · rw [if_neg hi, List.getElem?_eq_none (by simp; omega)]
  show (Kd.tag _ k34).M W base _ (x, j) (((heads hs l 0).drop (j * 3)).take 3)
  rw [hcs]
  have hd := h.data j x hx
  refine k34_mkM W base _ x (v2 := .slice (hs j).1 x.f2.length (hs j).2) (Kd.R_mono (ok := fun k => (Value.slice (hs j).1 x.f2.length (hs j).2).ownBlock = some k) ?_ (fun k hk => ⟨⟨trivial, ?_⟩, ?_⟩))
  · obtain ⟨_, inner, ho, hr⟩ := R_of_own hd
    exact ⟨fun k hk => hk, inner, ho, hr.imp_ (fun _ _ hp => hp)⟩
  · intro e
    rcases own_type_ne h.own hd (by decide) with h' | h'
    · rw [h'] at e; cases e
    · exact h' (by rw [hk, ← e])
  · have hex : ∃ j, j < l.length ∧ (Value.slice (hs j).1 0 0).ownBlock = some k := ⟨j, hl, by rw [← hk]; exact ownBlock_any _ _ _ _ _⟩
    show (if hk : ∃ j, j < l.length ∧ (Value.slice (hs j).1 0 0).ownBlock = some k then Classical.choose hk else 0) = j
    rw [dif_pos hex]
    obtain ⟨q1, q2⟩ := Classical.choose_spec hex
    rcases Nat.lt_trichotomy (Classical.choose hex) j with hc | hc | hc
    · exact absurd (by rw [← hk]; exact ownBlock_any _ _ _ _ _) (h.apart _ j q1 hl (by omega) k q2)
    · exact hc
    · exact absurd (by rw [← hk]; exact ownBlock_any _ _ _ _ _) (h.apart _ j q1 hl (by omega) k q2)
end Go.Proofs.Ytkpkgpopmodagaa.B
