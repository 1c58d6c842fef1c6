import Derived.Test.YtkpkgpopmodagaaPut
import Derived.BigGuardPart
namespace Go.Proofs.Ytkpkgpopmodagaa.B
open Go.RowKit Go.Proofs.YtkpkgpopmodagaaW.PrintWords Go.Proofs.YtkpkgpopmodagaaW.PrintLast Go.Proofs.YtkpkgpopmodagaaW.PrintMore Go.RF
set_option linter.unusedVariables false
set_option linter.unusedSimpArgs false
attribute [local go_sem] Oper.semAt_some

def writeE (l : List S34) (a : Int) (b : List Int) : Int := if b.length > 4096 then 2 else if (gatherP l (chunksP l a b.length 2)).length < b.length then 121 else 0
def writeP (l : List S34) (a : Int) (b : List Int) : List S34 := if b.length > 4096 then l else if (gatherP l (chunksP l a b.length 2)).length < b.length then l else putAllP (chunksP l a b.length 2) l b


theorem PO.HC {W : World} {base : Nat} {Av : Option Addr} {cv : Nat} {l : List S34} {hs : Nat → Option Addr × Nat} (h : PO W base (.slice Av l.length cv) l hs) : HC W Av l hs := by
  refine ⟨?_, fun hp => ?_, fun j x hx => ?_⟩
  · rcases h.own.2 with ⟨h1, h2⟩ | ⟨g, cap, cur, h1, h2, h3, h4, h5, _⟩
    · omega
    · unfold maxLen at h5; omega
  · have ho := h.own
    rcases h.own.2 with ⟨h1, h2⟩ | ⟨g, cap, cur, h1, _⟩
    · omega
    · injection h1 with h1 h2 h3
      subst h1
      refine ⟨_, rfl, fun j x hx => ?_⟩
      obtain ⟨g1, g2, g3⟩ := heads_get hs l 0 j x hx
      rw [Nat.zero_add] at g3
      have k1 := own_cell ho _ _ g1
      have k2 := own_cell ho _ _ g2
      have k3 := own_cell ho _ _ g3
      have e : (⟨g, 0, none⟩ : Addr).add (j * 3) = ⟨g, j * 3, none⟩ := by rw [add_plain]
      rw [e]
      exact ⟨k1, k2, k3⟩
  · have hd := h.data j x hx
    rcases hd.2 with ⟨h1, h2⟩ | ⟨g, cap, cur, h1, h2, h3, h4, h5, _⟩
    · injection h1 with h1 h3 h4
      exact ⟨by omega, by omega, fun hp => by omega⟩
    · injection h1 with h1 h6 h7
      unfold maxLen at h5
      exact ⟨by omega, by omega, fun hp => ⟨_, h1⟩⟩
theorem PO.C_ {W : World} {base : Nat} {Av : Option Addr} {cv : Nat} {l : List S34} {hs : Nat → Option Addr × Nat} (h : PO W base (.slice Av l.length cv) l hs) : Kd.C k34 W Av l.length l := (Kd.R_reads' (Kd.S_R h.S_)).2.2
theorem PO.spot {W : World} {base : Nat} {v : Value} {l : List S34} {hs : Nat → Option Addr × Nat} (h : PO W base v l hs) (j : Nat) (hj : j < l.length) (hp : 0 < (rd_T34 l (j : Int)).f2.length) : ∃ D, (hs j).1 = some ⟨D, 0, none⟩ := by
  have hxl : l[j]? = some (rd_T34 l (j : Int)) := by simp [rd_T34, List.getD_eq_getElem?_getD, List.getElem?_eq_getElem hj]
  rcases (h.data j _ hxl).2 with ⟨h1, h2⟩ | ⟨g, cap, cur, h1, _⟩
  · omega
  · injection h1 with h1
    exact ⟨g, h1⟩
theorem pagesAt_len {v : Value} {l m : List S34} {hs : Nat → Option Addr × Nat} {k : Nat} (e : l.length = m.length) (h : pagesAt v m hs k) : pagesAt v l hs k := by
  unfold pagesAt at h ⊢
  rw [e]; exact h
theorem chunks_pos (l : List S34) (perm most : Int) (hlen : ∀ x ∈ l, x.f2.length ≤ 9223372036854775807) : ∀ (f : Nat) (a n : Int), (0 < n → 1 ≤ most) → ∀ x ∈ chunks l perm most f a n, 1 ≤ x.2.2
  | 0, _, _, _, x, h => by simp [chunks] at h
  | f + 1, a, n, hm, x, h => by
    unfold chunks at h
    split at h
    · cases h
    split at h
    · cases h
    split at h
    · cases h
    rename_i h1 h2 h3
    rcases findP_range l a with hi | ⟨j, hj, hi, hp⟩
    · omega
    rw [hi] at h
    have hpg : (rd_T34 l (j : Int)).f0 ≤ a ∧ IntKind.u64.wrap (a - (rd_T34 l (j : Int)).f0) < IntKind.u64.wrap ((rd_T34 l (j : Int)).f2.length : Int) := by simpa [onPage] using hp
    have hl := hlen (rd_T34 l (j : Int)) (by
      have : rd_T34 l (j : Int) = l[j] := by simp [rd_T34, List.getD_eq_getElem?_getD, List.getElem?_eq_getElem hj]
      rw [this]; exact List.getElem_mem hj)
    have hwl : IntKind.u64.wrap ((rd_T34 l (j : Int)).f2.length : Int) = ((rd_T34 l (j : Int)).f2.length : Int) := by unfold IntKind.wrap; simp [IntKind.signed, IntKind.bits]; omega
    have hw0 : 0 ≤ IntKind.u64.wrap (a - (rd_T34 l (j : Int)).f0) := by unfold IntKind.wrap; simp [IntKind.signed, IntKind.bits]; omega
    rw [hwl] at hpg
    have := hm (by omega)
    rcases List.mem_cons.1 h with h | h
    · subst h
      show 1 ≤ min (min _ _) _
      omega
    · exact chunks_pos l perm most hlen f _ _ (fun h => hm (by omega)) x h

end Go.Proofs.Ytkpkgpopmodagaa.B
