import Derived.Test.YtkpkgpopmodagaaBx7
import Derived.Test.YtkpkgpopmodagaaWr
namespace Go.Proofs.Ytkpkgpopmodagaa.B
open Go.RowKit Go.Proofs.YtkpkgpopmodagaaW.PrintWords Go.Proofs.YtkpkgpopmodagaaW.PrintLast Go.Proofs.YtkpkgpopmodagaaW.PrintMore Go.RF
set_option linter.unusedVariables false
set_option linter.unusedSimpArgs false
theorem never_j0_true (k : Nat) (l : List S34) (a : Int) (b : List Int) (x y : Int) : sundiallaw12_MemoryNever.j0 (k + 1) l a b x y true = some true := by
  rw [sundiallaw12_MemoryNever.j0, if_pos rfl, wakes_true, Option.bind_some]
theorem fetch_some (l : List S34) (a n : Int) : memory_Fetch.f l a n = some (fetchP l a n, fetchE l a n) := rfl
theorem fetch_eq {l : List S34} (hs : Small l) {a : Int} (ha : InR a) (n : Int) : fetchP l a n = bytesAt l 1 (if n < 4096 then n else 4096).toNat a := gatherP_bytes l a _ 1 hs ha
theorem never_l0 (l : List S34) (a : Int) (B : List Int) (hl : l.length ≤ 16) (hs : Small l) (ha : InR a) (hB4 : B.length ≤ 4096) (hB : ∀ (i : Nat) (u : Int), B[i]? = some u → byteAt l 1 (IntKind.u64.wrap (a + (i : Nat))) = some u) :
    ∀ (m i k : Nat), B.length = i + m → m + 50 ≤ k → sundiallaw12_MemoryNever.l0 k l a B (i : Int) = some true := by
  intro m
  induction m with
  | zero =>
    intro i k h hk
    obtain ⟨k, rfl⟩ : ∃ z, k = z + 1 := ⟨k - 1, by omega⟩
    rw [sundiallaw12_MemoryNever.l0, if_neg (by omega), wakes_true, Option.bind_some]
  | succ m ih =>
    intro i k h hk
    obtain ⟨k, rfl⟩ : ∃ z, k = z + 1 := ⟨k - 1, by omega⟩
    have hn := ih (i + 1) k (by omega) (by omega)
    have w1 : wrap64 ((i : Int) + 1) = ((i + 1 : Nat) : Int) := by rw [w64 (by omega)]; omega
    have e0 : IntKind.u64.wrap (a + IntKind.u64.wrap (i : Int)) = IntKind.u64.wrap (a + (i : Nat)) := by simp only [u64w]; omega
    have hil : i < B.length := by omega
    have hby := hB i _ (List.getElem?_eq_getElem hil)
    obtain ⟨x, hx⟩ : ∃ x, IntKind.u64.wrap (a + (i : Nat)) = x := ⟨_, rfl⟩
    have hxr : InR x := by rw [← hx]; exact InR.w _
    rw [hx] at hby
    rw [sundiallaw12_MemoryNever.l0, if_pos (by omega), e0, hx, find_some l x (by omega) k (by omega), Option.bind_some]
    rw [byteAt_cell] at hby
    rcases find_nat l x with h3 | ⟨j, hj, h3⟩
    · rw [if_pos h3] at hby; cases hby
    rw [h3, if_neg (by omega)] at hby
    by_cases hbit : Go.bits .and .u8 (rd_T34 l (j : Int)).f1 1 = 0
    · rw [if_pos hbit] at hby; cases hby
    rw [if_neg hbit] at hby
    injection hby with hby
    rcases find_cases l x hs hxr with ⟨hc1, _⟩ | ⟨j', hj', hc1, hc2, hc3, _⟩
    · omega
    obtain rfl : j' = j := by omega
    have hl0 := (hs _ (rd_mem hj)).1
    have hl1 := (hs _ (rd_mem hj)).2
    unfold InR at hl0 hxr
    have how : IntKind.u64.wrap (x - (rd_T34 l (j' : Int)).f0) = x - (rd_T34 l (j' : Int)).f0 := by rw [u64w]; omega
    have hrd : rd (rd_T34 l (j' : Int)).f2 (IntKind.u64.wrap (x - (rd_T34 l (j' : Int)).f0)) = rd B (i : Int) := by
      unfold cellAt at hby
      rw [h3] at hby
      show _ = B.getD (i : Int).toNat 0
      rw [Int.toNat_natCast, List.getD_eq_getElem?_getD, List.getElem?_eq_getElem hil]
      exact hby
    rw [h3, if_neg (by omega), if_pos (by omega), if_pos (by omega), if_neg hbit, if_pos (by rw [how]; omega), if_pos (by rw [how]; omega), if_pos (by omega), if_pos hrd, w1]
    exact hn
theorem never_j1 (k : Nat) (hk : 4500 ≤ k) (l q : List S34) (a3 n : Int) (hl : l.length ≤ 16) (hs : Small l) (ha : InR a3) (hal : Alike l q) (hq : ∀ x, InR x → byteAt q 1 x = byteAt l 1 x) : sundiallaw12_MemoryNever.j1 (k + 2) l a3 n q false = some true := by
  have hP : fetchP q a3 n = fetchP l a3 n := by rw [fetch_eq (hal.small hs) ha, fetch_eq hs ha]; exact bytesAt_congr _ _ ha hq
  have hE : fetchE q a3 n = fetchE l a3 n := by unfold fetchE; rw [hP]
  have hle : (fetchP l a3 n).length ≤ (if n < 4096 then n else 4096).toNat := by rw [fetch_eq hs ha]; exact bytesAt_le _ _ _ _
  have h4 : (if n < 4096 then n else 4096) ≤ 4096 := by split <;> omega
  have h4n : (if n < 4096 then n else 4096) ≤ n := by split <;> omega
  have fin : sundiallaw12_MemoryNever.j2 (k + 1) l a3 (fetchP l a3 n) false = some true := by
    rw [sundiallaw12_MemoryNever.j2, if_neg (by simp)]
    refine never_l0 l a3 (fetchP l a3 n) hl hs ha (by omega) (fun i u h => ?_) (fetchP l a3 n).length 0 k (by omega) (by omega)
    rw [fetch_eq hs ha] at h
    exact bytesAt_get l 1 _ a3 i u ha h
  rw [sundiallaw12_MemoryNever.j1, if_neg (by simp), fetch_some, fetch_some, Option.bind_some, Option.bind_some, hP, hE, same_refl, Option.bind_some, if_pos rfl, if_pos rfl]
  by_cases h0 : fetchE l a3 n = 0
  · have hne : (fetchP l a3 n).length ≠ 0 := fun h => by unfold fetchE at h0; rw [if_pos h] at h0; omega
    rw [if_pos h0, if_neg (by show ¬ ((fetchP l a3 n).length : Int) < 1; omega)]
    rw [show decide (((fetchP l a3 n, fetchE l a3 n).1.length : Int) > n) = false from decide_eq_false (by show ¬ ((fetchP l a3 n).length : Int) > n; omega)]
    exact fin
  · rw [if_neg h0]
    exact fin
theorem Pure.MemoryNever (l : List S34) (a1 : Int) (b : List Int) (a3 a4 : Int) (hg : ∀ y ∈ l, GoodPage y) (w1 : (Lit.int .u64 a1).wf = true) (wb : ∀ y ∈ b, (Lit.int .u8 y).wf = true) (w3 : (Lit.int .u64 a3).wf = true) (w4 : (Lit.int .i64 a4).wf = true) :
    ∃ k, sundiallaw12_MemoryNever.f k l a1 b a3 a4 = some true := by
  refine ⟨5000, ?_⟩
  unfold sundiallaw12_MemoryNever.f
  obtain ⟨g, hgr, hgs⟩ := great_some l
  rw [hgr 5000 (by omega), Option.bind_some]
  cases g with
  | true => rw [if_pos rfl]; exact never_j0_true _ _ _ _ _ _
  | false =>
    rw [if_neg (by simp)]
    obtain ⟨hl, hs0⟩ := hgs rfl
    have hs := small_of hg hs0
    obtain ⟨r, hr, hri⟩ := right_some l hl
    rw [hr 5000 (by omega), Option.bind_some]
    cases r with
    | false => rw [if_neg (by simp)]; exact never_j0_true _ _ _ _ _ _
    | true =>
      have hp := hri.1 rfl
      rw [if_pos rfl]
      by_cases h : (b.length : Int) > 300
      · rw [show decide ((b.length : Int) > 300) = true from decide_eq_true h]; exact never_j0_true _ _ _ _ _ _
      · rw [show decide ((b.length : Int) > 300) = false from decide_eq_false h]
        have ha := inr_of w1
        obtain ⟨e1, e2, e3⟩ := write_any (Alike.refl l) hs ha (show b.length ≤ 4096 by omega)
        have hq : ∀ x, InR x → byteAt (writeP l a1 b) 1 x = byteAt l 1 x := by
          intro x hx
          rw [byteAt_alike e2, byteAt_cell]
          rcases find_nat l x with h3 | ⟨j, hj, h3⟩
          · rw [if_pos h3, if_pos h3]
          · by_cases hb1 : Go.bits .and .u8 (rd_T34 l (findP l x)).f1 1 = 0
            · rw [if_pos hb1, if_pos hb1]
            · have hcell := e3 x hx (by omega)
              rw [if_neg (fun hc => ?_)] at hcell
              · rw [hcell]
              · have hne := bytesAt_full ha hc.1 x hx hc.2
                rw [byteAt_cell, if_neg (by omega)] at hne
                have hb2 : ¬ Go.bits .and .u8 (rd_T34 l (findP l x)).f1 2 = 0 := fun hz => hne (by rw [if_pos hz])
                rw [h3] at hb1 hb2
                exact (hp.1 j hj).2.2.2.1 ⟨hb1, hb2⟩
        have fin : sundiallaw12_MemoryNever.j1 4999 l a3 a4 (writeP l a1 b) false = some true := never_j1 4997 (by omega) l _ a3 a4 hp.2 hs (inr_of w3) e2 hq
        rw [sundiallaw12_MemoryNever.j0, if_neg (by simp), find_some l a1 hl 4999 (by omega), Option.bind_some, write_some hl hs, Option.bind_some]
        rcases find_nat l a1 with h3 | ⟨j, hj, h3⟩
        · rw [if_neg (by omega)]; exact fin
        rw [h3, if_pos (by omega), if_pos (by omega), if_pos (by omega)]
        by_cases hb1 : Go.bits .and .u8 (rd_T34 l (j : Int)).f1 1 = 0
        · rw [if_pos hb1]; exact fin
        rw [if_neg hb1]
        by_cases hb0 : (b.length : Int) > 0
        · rw [if_pos hb0]
          have hno : (bytesAt l 2 b.length a1).length ≠ b.length := by
            intro hc
            have hne := bytesAt_full ha hc a1 ha (by rw [show a1 - a1 = 0 by omega, u64w]; omega)
            rw [byteAt_cell, h3, if_neg (by omega)] at hne
            exact (hp.1 j hj).2.2.2.1 ⟨hb1, fun hz => hne (by rw [if_pos hz])⟩
          rw [if_neg hno] at e1
          rw [e1, show ((121 : Int) != 121) = false by rfl]
          exact fin
        · rw [if_neg hb0]; exact fin
end Go.Proofs.Ytkpkgpopmodagaa.B
