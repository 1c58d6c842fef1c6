import Derived.Test.YtkpkgpopmodagaaBx6
import Derived.Test.YtkpkgpopmodagaaWr
namespace Go.Proofs.Ytkpkgpopmodagaa.B
open Go.RowKit Go.Proofs.YtkpkgpopmodagaaW.PrintWords Go.Proofs.YtkpkgpopmodagaaW.PrintLast Go.Proofs.YtkpkgpopmodagaaW.PrintMore Go.RF
set_option linter.unusedVariables false
set_option linter.unusedSimpArgs false
theorem back_j0_true (k : Nat) (l : List S34) (a : Int) (b : List Int) (x : Int) : sundiallaw12_MemoryBack.j0 (k + 1) l a b x true = some true := by
  rw [sundiallaw12_MemoryBack.j0, if_pos rfl, wakes_true, Option.bind_some]
theorem back_j3 (k : Nat) (hk : 30 ≤ k) (l q : List S34) (a : Int) (b : List Int) (hl : l.length ≤ 16) (hs : Small l) (hp : PagesR l) (ha : InR a) (hb : b.length ≤ 300) (hal : Alike l q) (hok : (bytesAt l 2 b.length a).length = b.length)
    (hq : ∀ x, InR x → 0 ≤ findP l x → cellAt q x = if IntKind.u64.wrap (x - a) < (b.length : Int) then b.getD (IntKind.u64.wrap (x - a)).toNat 0 else cellAt l x) : sundiallaw12_MemoryBack.j3 (k + 1) a b q false = some true := by
  have hsq := hal.small hs
  have hlq := hal.1
  obtain ⟨w1, w2, w3⟩ := write_ok hsq ha (show b.length ≤ 4096 by omega) (by rw [bytesAt_len_alike hal]; exact hok)
  have he : writeP q a b = q := by
    refine pages_ext hp hs (hal.trans w2) hal (fun x hx hf => ?_)
    rw [w3 x hx (by rw [hal.find]; exact hf), hq x hx hf]
    split <;> rfl
  rw [sundiallaw12_MemoryBack.j3, if_neg (by simp), write_some (by omega) hsq, Option.bind_some]
  rw [if_pos w1, he, same_some q (by omega) k hk, Option.bind_some, if_pos rfl, wakes_true, Option.bind_some]
theorem back_l0 (l q : List S34) (a : Int) (b : List Int) (x3 : Int) (hl : l.length ≤ 16) (hs : Small l) (hp : PagesR l) (ha : InR a) (hx3 : InR x3) (hb : b.length ≤ 300) (hal : Alike l q) (hok : (bytesAt l 2 b.length a).length = b.length)
    (hq : ∀ x, InR x → 0 ≤ findP l x → cellAt q x = if IntKind.u64.wrap (x - a) < (b.length : Int) then b.getD (IntKind.u64.wrap (x - a)).toNat 0 else cellAt l x) :
    ∀ (m i k : Nat), b.length = i + m → m + 50 ≤ k → sundiallaw12_MemoryBack.l0 k l a b x3 q (i : Int) = some true := by
  intro m
  induction m with
  | zero =>
    intro i k h hk
    obtain ⟨k, rfl⟩ : ∃ z, k = z + 2 := ⟨k - 2, by omega⟩
    have hsq := hal.small hs
    rw [sundiallaw12_MemoryBack.l0, if_neg (by omega), read_some, read_some, Option.bind_some, Option.bind_some]
    obtain ⟨x1, x2⟩ := read_eq hs hx3 1 (by omega)
    obtain ⟨y1, y2⟩ := read_eq hsq hx3 1 (by omega)
    have hlen := bytesAt_len_alike hal 4 1 x3
    have j3 := back_j3 k (by omega) l q a b hl hs hp ha hb hal hok hq
    rw [show ((1 : Nat) : Int) = 1 from rfl] at x1 x2 y1 y2
    rw [hlen] at y1 y2
    by_cases h1 : (bytesAt l 4 1 x3).length = 1
    · rw [if_pos h1] at x1 x2 y1 y2
      show (if readE l x3 1 = readE q x3 1 then (if readE l x3 1 = 0 then (if IntKind.u64.wrap (x3 - a) ≥ IntKind.u64.wrap ((b.length : Int)) then ((sundiallaw12_same.f (readP l x3 1) (readP q x3 1)).bind fun t195 => (sundiallaw12_MemoryBack.j3 (k + 1) a b q (!t195))) else (sundiallaw12_MemoryBack.j3 (k + 1) a b q false)) else (sundiallaw12_MemoryBack.j3 (k + 1) a b q false)) else some false) = some true
      rw [x1, y1, if_pos rfl, if_pos rfl]
      by_cases h2 : IntKind.u64.wrap (x3 - a) ≥ IntKind.u64.wrap ((b.length : Int))
      · rw [if_pos h2]
        have hbw : IntKind.u64.wrap ((b.length : Int)) = (b.length : Int) := by rw [u64w]; omega
        have hbyte : byteAt q 4 x3 = byteAt l 4 x3 := by
          rw [byteAt_alike hal, byteAt_cell]
          rcases find_nat l x3 with h3 | ⟨j, hj, h3⟩
          · rw [if_pos h3, if_pos h3]
          · have hq3 := hq x3 hx3 (by omega)
            rw [if_neg (by rw [hbw] at h2; omega)] at hq3
            rw [hq3]
        have hbb : bytesAt q 4 1 x3 = bytesAt l 4 1 x3 := by
          cases hb1 : byteAt l 4 x3 with
          | none => rw [bytesAt_none 0 hb1, bytesAt_none 0 (hbyte.trans hb1)]
          | some u => rw [bytesAt_some 0 hb1, bytesAt_some 0 (hbyte.trans hb1)]; rfl
        rw [x2, y2, hbb, same_refl, Option.bind_some]
        exact j3
      · rw [if_neg h2]
        exact j3
    · rw [if_neg h1] at x1 x2 y1 y2
      show (if readE l x3 1 = readE q x3 1 then (if readE l x3 1 = 0 then (if IntKind.u64.wrap (x3 - a) ≥ IntKind.u64.wrap ((b.length : Int)) then ((sundiallaw12_same.f (readP l x3 1) (readP q x3 1)).bind fun t195 => (sundiallaw12_MemoryBack.j3 (k + 1) a b q (!t195))) else (sundiallaw12_MemoryBack.j3 (k + 1) a b q false)) else (sundiallaw12_MemoryBack.j3 (k + 1) a b q false)) else some false) = some true
      rw [x1, y1, if_pos rfl, if_neg (by omega)]
      exact j3
  | succ m ih =>
    intro i k h hk
    obtain ⟨k, rfl⟩ : ∃ z, k = z + 1 := ⟨k - 1, by omega⟩
    have hn := ih (i + 1) k (by omega) (by omega)
    have w1 : wrap64 ((i : Int) + 1) = ((i + 1 : Nat) : Int) := by rw [w64 (by omega)]; omega
    obtain ⟨x, hx⟩ : ∃ x, IntKind.u64.wrap (a + IntKind.u64.wrap (i : Int)) = x := ⟨_, rfl⟩
    have hxr : InR x := by rw [← hx]; exact InR.w _
    have hxa : IntKind.u64.wrap (x - a) = (i : Int) := by rw [← hx]; simp only [u64w]; omega
    rw [sundiallaw12_MemoryBack.l0, if_pos (by omega), hx, find_some q x (by have := hal.1; omega) k (by omega), Option.bind_some, hal.find]
    have hne := bytesAt_full ha hok x hxr (by rw [hxa]; omega)
    rw [byteAt_cell] at hne
    rcases find_nat l x with h3 | ⟨j, hj, h3⟩
    · rw [if_pos h3] at hne; exact absurd rfl hne
    rw [h3, if_neg (by omega)] at hne
    have hbit : ¬ Go.bits .and .u8 (rd_T34 l (j : Int)).f1 2 = 0 := fun hc => hne (by rw [if_pos hc])
    obtain ⟨a1, a2, a3⟩ := hal.at_ j hj
    rcases find_cases l x hs hxr with ⟨hc1, _⟩ | ⟨j', hj', hc1, hc2, hc3, _⟩
    · omega
    obtain rfl : j' = j := by omega
    have hl0 := (hs _ (rd_mem hj)).1
    have hl1 := (hs _ (rd_mem hj)).2
    have hxx := hxr
    unfold InR at hl0 hxr
    have how : IntKind.u64.wrap (x - (rd_T34 l (j' : Int)).f0) = x - (rd_T34 l (j' : Int)).f0 := by rw [u64w]; omega
    have hcell := hq x hxx (by omega)
    rw [hxa, if_pos (by omega)] at hcell
    have hrd : rd (rd_T34 q (j' : Int)).f2 (IntKind.u64.wrap (x - (rd_T34 q (j' : Int)).f0)) = rd b (i : Int) := by
      unfold cellAt at hcell
      rw [hal.find, h3] at hcell
      exact hcell
    rw [h3, if_neg (by omega), if_pos (by omega), if_pos (by have := hal.1; omega), a2, if_neg hbit]
    rw [if_pos (by rw [a1, how]; omega), if_pos (by rw [a1, how, a3]; omega), if_pos (by omega), if_pos hrd, w1]
    exact hn
theorem Pure.MemoryBack (l : List S34) (a1 : Int) (b : List Int) (a3 : Int) (hg : ∀ y ∈ l, GoodPage y) (w1 : (Lit.int .u64 a1).wf = true) (wb : ∀ y ∈ b, (Lit.int .u8 y).wf = true) (w3 : (Lit.int .u64 a3).wf = true) :
    ∃ k, sundiallaw12_MemoryBack.f k l a1 b a3 = some true := by
  refine ⟨1000, ?_⟩
  unfold sundiallaw12_MemoryBack.f
  obtain ⟨g, hgr, hgs⟩ := great_some l
  rw [hgr 1000 (by omega), Option.bind_some]
  cases g with
  | true => rw [if_pos rfl]; exact back_j0_true _ _ _ _ _
  | false =>
    rw [if_neg (by simp)]
    obtain ⟨hl, hs0⟩ := hgs rfl
    have hs := small_of hg hs0
    obtain ⟨r, hr, hri⟩ := right_some l hl
    rw [hr 1000 (by omega), Option.bind_some]
    cases r with
    | false => rw [if_neg (by simp)]; exact back_j0_true _ _ _ _ _
    | true =>
      have hp := hri.1 rfl
      rw [if_pos rfl]
      by_cases h : (b.length : Int) > 300
      · rw [show decide ((b.length : Int) > 300) = true from decide_eq_true h]; exact back_j0_true _ _ _ _ _
      · rw [show decide ((b.length : Int) > 300) = false from decide_eq_false h]
        have ha := inr_of w1
        rw [sundiallaw12_MemoryBack.j0, if_neg (by simp), own_some l hl hs0 999 (by omega), Option.bind_some, write_some hl hs, Option.bind_some, same_some l hl 999 (by omega), Option.bind_some, if_pos rfl]
        by_cases hok : (bytesAt l 2 b.length a1).length = b.length
        · obtain ⟨e1, e2, e3⟩ := write_ok hs ha (show b.length ≤ 4096 by omega) hok
          obtain ⟨r', hr', hri'⟩ := right_some (writeP l a1 b) (by have := e2.1; omega)
          rw [hr' 999 (by omega), Option.bind_some, hri'.2 (hp.alike e2), if_pos rfl]
          rw [show (((writeP l a1 b).length : Int) != (l.length : Int)) = false by rw [← e2.1]; simp]
          rw [sundiallaw12_MemoryBack.j1, if_neg (by simp), if_pos e1]
          exact back_l0 l _ a1 b a3 hp.2 hs hp ha (inr_of w3) (by omega) e2 hok e3 b.length 0 998 (by omega) (by omega)
        · obtain ⟨e1, e2⟩ := write_no hs ha (show b.length ≤ 4096 by omega) hok
          rw [e2, e1, hr 999 (by omega), Option.bind_some, if_pos rfl]
          rw [show ((l.length : Int) != (l.length : Int)) = false by simp]
          rw [sundiallaw12_MemoryBack.j1, if_neg (by simp), if_neg (by omega), if_pos rfl, same_some l hl 998 (by omega), Option.bind_some, if_pos rfl, wakes_true, Option.bind_some]
end Go.Proofs.Ytkpkgpopmodagaa.B
