import Derived.Test.YtkpkgpopmodagaaBx9
import Derived.Test.YtkpkgpopmodagaaWr
namespace Go.Proofs.Ytkpkgpopmodagaa.B
open Go.RowKit Go.Proofs.YtkpkgpopmodagaaW.PrintWords Go.Proofs.YtkpkgpopmodagaaW.PrintLast Go.Proofs.YtkpkgpopmodagaaW.PrintMore Go.RF
set_option linter.unusedVariables false
set_option linter.unusedSimpArgs false
theorem order_j0_true (k : Nat) (l : List S34) (a1 a2 : Int) (b c : List Int) : sundiallaw12_MemoryOrder.j0 (k + 1) l a1 a2 b c true = some true := by
  rw [sundiallaw12_MemoryOrder.j0, if_pos rfl, wakes_true, Option.bind_some]
theorem order_j3 (k : Nat) (hk : 30 ≤ k) (l x11 : List S34) (a2 x13 : Int) (c : List Int) (hl : l.length ≤ 16) (hs : Small l) (ha : InR a2) (hc : 0 < c.length ∧ c.length ≤ 40) (hal : Alike l x11)
    (hq : x13 = 0 → ∀ x, InR x → 0 ≤ findP l x → IntKind.u64.wrap (x - a2) < (c.length : Int) → cellAt x11 x = c.getD (IntKind.u64.wrap (x - a2)).toNat 0) : sundiallaw12_MemoryOrder.j3 (k + 1) a2 c x11 x13 false = some true := by
  rw [sundiallaw12_MemoryOrder.j3, if_neg (by simp)]
  by_cases h0 : x13 = 0
  · rw [if_pos h0, read_some, Option.bind_some, find_some x11 a2 (by have := hal.1; omega) k hk, Option.bind_some, hal.find]
    rcases find_nat l a2 with h3 | ⟨j, hj, h3⟩
    · rw [if_pos h3, wakes_true, Option.bind_some]
    rw [h3, if_neg (by omega), if_pos (by omega), if_pos (by have := hal.1; omega), (hal.at_ j hj).2.1]
    by_cases hb : Go.bits .and .u8 (rd_T34 l (j : Int)).f1 4 = 0
    · rw [if_pos hb, wakes_true, Option.bind_some]
    · rw [if_neg hb, if_pos (by omega)]
      have hby : byteAt x11 4 a2 = some (c.getD 0 0) := by
        have hcell := hq h0 a2 ha (by omega) (by rw [show a2 - a2 = 0 by omega, u64w]; omega)
        rw [byteAt_alike hal, h3, if_neg (by omega), if_neg hb, hcell, show a2 - a2 = 0 by omega]
        rfl
      have hbs : bytesAt x11 4 1 a2 = c.take 1 := by
        rw [bytesAt_some 0 hby]
        cases c with
        | nil => simp at hc
        | cons y r => rfl
      obtain ⟨x1, x2⟩ := read_eq (hal.small hs) ha 1 (by omega)
      rw [show ((1 : Nat) : Int) = 1 from rfl, hbs, if_pos (by rw [List.length_take]; omega)] at x2
      rw [x2, same_refl, Option.bind_some, if_pos rfl, wakes_true, Option.bind_some]
  · rw [if_neg h0, wakes_true, Option.bind_some]
theorem Pure.MemoryOrder (l : List S34) (a1 a2 : Int) (b c : List Int) (hg : ∀ y ∈ l, GoodPage y) (w1 : (Lit.int .u64 a1).wf = true) (w2 : (Lit.int .u64 a2).wf = true) (wb : ∀ y ∈ b, (Lit.int .u8 y).wf = true) (wc : ∀ y ∈ c, (Lit.int .u8 y).wf = true) :
    ∃ k, sundiallaw12_MemoryOrder.f k l a1 a2 b c = some true := by
  refine ⟨200, ?_⟩
  unfold sundiallaw12_MemoryOrder.f
  obtain ⟨g, hgr, hgs⟩ := great_some l
  rw [hgr 200 (by omega), Option.bind_some]
  cases g with
  | true => rw [if_pos rfl]; exact order_j0_true _ _ _ _ _ _
  | false =>
    rw [if_neg (by simp)]
    obtain ⟨hl, hs0⟩ := hgs rfl
    have hs := small_of hg hs0
    obtain ⟨r, hr, hri⟩ := right_some l hl
    rw [hr 200 (by omega), Option.bind_some]
    cases r with
    | false => rw [if_neg (by simp)]; exact order_j0_true _ _ _ _ _ _
    | true =>
      have hp := hri.1 rfl
      have hl16 := hp.2
      rw [if_pos rfl]
      by_cases hb : (b.length : Int) > 40
      · rw [if_pos hb]; exact order_j0_true _ _ _ _ _ _
      rw [if_neg hb]
      by_cases hc : (c.length : Int) > 40
      · rw [if_pos hc]; exact order_j0_true _ _ _ _ _ _
      rw [if_neg hc]
      by_cases hb0 : (b.length : Int) = 0
      · rw [if_pos hb0]; exact order_j0_true _ _ _ _ _ _
      rw [if_neg hb0]
      by_cases hc0 : (c.length : Int) = 0
      · rw [show ((c.length : Int) == 0) = true by simpa using hc0]; exact order_j0_true _ _ _ _ _ _
      rw [show ((c.length : Int) == 0) = false by simpa using hc0]
      have ha1 := inr_of w1
      have ha2 := inr_of w2
      obtain ⟨p1, p2, p3⟩ := write_any (Alike.refl l) hs ha1 (show b.length ≤ 4096 by omega)
      obtain ⟨q1, q2, q3⟩ := write_any p2 hs ha2 (show c.length ≤ 4096 by omega)
      obtain ⟨r1, r2, r3⟩ := write_any (Alike.refl l) hs ha2 (show c.length ≤ 4096 by omega)
      obtain ⟨t1, t2, t3⟩ := write_any r2 hs ha1 (show b.length ≤ 4096 by omega)
      rw [sundiallaw12_MemoryOrder.j0, if_neg (by simp), write_some hl hs, Option.bind_some, write_some (by have := p2.1; omega) (p2.small hs), Option.bind_some, write_some hl hs, Option.bind_some, write_some (by have := r2.1; omega) (r2.small hs), Option.bind_some]
      rw [if_pos (show writeE l a1 b = writeE (writeP l a2 c) a1 b by rw [p1, t1])]
      rw [show (writeE (writeP l a1 b) a2 c != writeE l a2 c) = false by rw [q1, r1]; simp]
      rw [sundiallaw12_MemoryOrder.j1, if_neg (by simp)]
      have fin : ∀ k, 30 ≤ k → sundiallaw12_MemoryOrder.j3 (k + 1) a2 c (writeP (writeP l a1 b) a2 c) (writeE (writeP l a1 b) a2 c) false = some true := fun k hk =>
        order_j3 k hk l _ a2 _ c hl16 hs ha2 (by omega) q2 (fun h0 x hx hf hw => by
          rw [q1] at h0
          have hok : (bytesAt l 2 c.length a2).length = c.length := Classical.byContradiction fun hcn => by rw [if_neg hcn] at h0; omega
          rw [q3 x hx hf, if_pos ⟨hok, hw⟩])
      have hbw : IntKind.u64.wrap ((b.length : Int)) = (b.length : Int) := by rw [u64w]; omega
      have hcw : IntKind.u64.wrap ((c.length : Int)) = (c.length : Int) := by rw [u64w]; omega
      rw [hbw, hcw]
      by_cases h1 : IntKind.u64.wrap (a2 - a1) ≥ (b.length : Int)
      · rw [if_pos h1]
        by_cases h2 : IntKind.u64.wrap (a1 - a2) ≥ (c.length : Int)
        · rw [show decide (IntKind.u64.wrap (a1 - a2) ≥ (c.length : Int)) = true from decide_eq_true h2]
          rw [sundiallaw12_MemoryOrder.j2, if_pos rfl]
          have he : writeP (writeP l a1 b) a2 c = writeP (writeP l a2 c) a1 b := by
            refine pages_ext hp hs q2 t2 (fun x hx hf => ?_)
            rw [q3 x hx hf, p3 x hx hf, t3 x hx hf, r3 x hx hf]
            have hdis : ¬ (IntKind.u64.wrap (x - a1) < (b.length : Int) ∧ IntKind.u64.wrap (x - a2) < (c.length : Int)) := by
              rintro ⟨e1, e2⟩
              unfold InR at ha1 ha2 hx
              simp only [u64w] at h1 h2 e1 e2
              omega
            by_cases e1 : IntKind.u64.wrap (x - a1) < (b.length : Int)
            · have e2 : ¬ IntKind.u64.wrap (x - a2) < (c.length : Int) := fun h => hdis ⟨e1, h⟩
              rw [if_neg (fun h => e2 h.2), if_neg (c := (bytesAt l 2 c.length a2).length = c.length ∧ _) (fun h => e2 h.2)]
            · rw [if_neg (c := (bytesAt l 2 b.length a1).length = b.length ∧ _) (fun h => e1 h.2), if_neg (c := (bytesAt l 2 b.length a1).length = b.length ∧ _) (fun h => e1 h.2)]
          rw [he, same_some (writeP (writeP l a2 c) a1 b) (by have := t2.1; omega) 197 (by omega), Option.bind_some, ← he]
          exact fin 196 (by omega)
        · rw [show decide (IntKind.u64.wrap (a1 - a2) ≥ (c.length : Int)) = false from decide_eq_false h2]
          rw [sundiallaw12_MemoryOrder.j2, if_neg (by simp)]
          exact fin 196 (by omega)
      · rw [if_neg h1, sundiallaw12_MemoryOrder.j2, if_neg (by simp)]
        exact fin 196 (by omega)
end Go.Proofs.Ytkpkgpopmodagaa.B
