import Derived.Test.YtkpkgpopmodagaaOwnB
namespace Go.Proofs.Ytkpkgpopmodagaa.B
open Go.RowKit Go.Proofs.YtkpkgpopmodagaaW.PrintWords Go.Proofs.YtkpkgpopmodagaaW.PrintLast Go.Proofs.YtkpkgpopmodagaaW.PrintMore Go.RF
set_option linter.unusedVariables false
set_option linter.unusedSimpArgs false

/-- Pages of the call's own: their heads in one row, their bytes in rows that are apart. -/
structure PO (W : World) (base : Nat) (v : Value) (l : List S34) (hs : Nat → Option Addr × Nat) : Prop where
  own : W.ownsRow base 34 3 v l.length (heads hs l 0)
  data : ∀ (j : Nat) (x : S34), l[j]? = some x → W.ownsRow base 5 1 (.slice (hs j).1 x.f2.length (hs j).2) x.f2.length (nums .u8 x.f2)
  apart : ∀ i j : Nat, i < l.length → j < l.length → i ≠ j → ∀ b, (Value.slice (hs i).1 0 0).ownBlock = some b → (Value.slice (hs j).1 0 0).ownBlock ≠ some b
theorem ownBlock_any (A : Option Addr) (n c n' c' : Nat) : (Value.slice A n c).ownBlock = (Value.slice A n' c').ownBlock := by cases A <;> rfl
theorem own_cell {W : World} {base e size n cap g : Nat} {xs : List Value} (h : W.ownsRow base e size (.slice (some ⟨g, 0, none⟩) n cap) n xs) (j : Nat) (u : Value) (hj : xs[j]? = some u) : W.cell? ⟨g, j, none⟩ = some u := by
  have := h.cells (g := g) rfl j u hj
  rwa [add_plain] at this
theorem own_frozen {W : World} {base e size n cap g : Nat} {xs : List Value} (h : W.ownsRow base e size (.slice (some ⟨g, 0, none⟩) n cap) n xs) (j : Nat) : W.frozen? ⟨g, j, none⟩ = false := by
  rcases h.2 with ⟨h', _⟩ | ⟨g', cap', cur, h', hb, hg, _⟩
  · cases h'
  · injection h' with h1 _ _
    injection h1 with h1
    injection h1 with h1 _ _
    subst h1
    exact blk_frozen hg j

set_option maxHeartbeats 4000000 in
set_option maxRecDepth 100000 in
theorem copied_calls (A : Option Addr) (c : Nat) (l : List S34) (w : World) (h : Kd.C k34 w A l.length l) (hm : l.length ≤ 1000000) (hd : ∀ x ∈ l, x.f2.length ≤ 1000000000) :
    Calls Try.prog 30 #[.slice A l.length c, .func (.func 31) #[] #[]] w fun e w' => ∃ v hs, e = .returned v ∧ PO w' w.heap.size v l hs ∧ Below w.heap.size w w' := by
  obtain ⟨hs0, hH, hD⟩ := HC.of h
  have HH := Aside0.mk hH
  have HD := Aside0.mk hD
  have HDL := Aside0.mk hd
  clear h hH hD hd
  go_enter Try.func30, Try.ntmps30
  go_wp2_with fail
  refine (clone_pages A c l hs0 w HH.out hm).mono ?_
  rintro e w1 ⟨v, rfl, hown, hb⟩
  obtain ⟨Av, cv, rfl⟩ := own_slice hown
  have HO := Aside0.mk hown
  have HB := Aside0.mk hb
  clear hown hb
  go_wp2_with fail
  go_loopw [11] (fun i wr => ∃ (k : Nat) (hs : Nat → Option Addr × Nat), k ≤ l.length ∧ i = .int .i64 k ∧ wr.ownsRow w.heap.size 34 3 (.slice Av l.length cv) l.length (heads hs l 0) ∧
    (∀ (j : Nat) (x : S34), j < k → l[j]? = some x → wr.ownsRow w.heap.size 5 1 (.slice (hs j).1 x.f2.length (hs j).2) x.f2.length (nums .u8 x.f2)) ∧
    (∀ i j : Nat, i < k → j < k → i ≠ j → ∀ b, (Value.slice (hs i).1 0 0).ownBlock = some b → (Value.slice (hs j).1 0 0).ownBlock ≠ some b) ∧ (∀ j, k ≤ j → hs j = hs0 j) ∧ Below w.heap.size w wr) (fun i _ => l.length - (intOf i).toNat)
  case atStart => exact ⟨0, hs0, Nat.zero_le _, rfl, HO.out, fun _ _ h => absurd h (Nat.not_lt_zero _), fun _ _ h => absurd h (Nat.not_lt_zero _), fun _ _ => rfl, HB.out⟩
  case round =>
    obtain ⟨k, hs, hk, rfl, hown, hdata, hap, hsame, hB⟩ := hrel
    by_cases hlt : k < l.length
    · obtain ⟨x, hx⟩ : ∃ x, l[k]? = some x := ⟨_, List.getElem?_eq_getElem hlt⟩
      obtain ⟨g1, g2, g3⟩ := heads_get hs l 0 k x hx
      rw [Nat.zero_add, hsame k (Nat.le_refl _)] at g3
      obtain ⟨G, rfl⟩ : ∃ G, Av = some ⟨G, 0, none⟩ := by
        rcases hown.2 with ⟨h', h''⟩ | ⟨g, cap, cur, h', _⟩
        · omega
        · injection h' with h1 _ _
          exact ⟨g, h1⟩
      have q1 := own_cell hown _ _ g1
      have q2 := own_cell hown _ _ g2
      have q3 := own_cell hown _ _ g3
      have hdx := Kd.C_below (HD.out k x hx) hB
      have hxl := HDL.out x (by obtain ⟨hh, e⟩ := List.getElem?_eq_some_iff.1 hx; rw [← e]; exact List.getElem_mem hh)
      have hGlt : G < wr.heap.size := own_lt hown G rfl
      have HX := Aside0.mk hx
      have HDX := Aside0.mk hdx
      have HOW := Aside0.mk hown
      have HDA := Aside0.mk hdata
      have HAP := Aside0.mk hap
      have HSA := Aside0.mk hsame
      have HBB := Aside0.mk hB
      have hu34 := Try.underlying34
      clear hx hdx hown hdata hap hsame hB g1 g2 g3 HO
      go_wp2_with fail
      refine (own1_calls x (hs0 k).1 (hs0 k).2 _ (Kd.C_alloc HDX.out _) hxl).mono ?_
      rintro e w2 ⟨A', c', rfl, hown', hb'⟩
      have hb2 := below_step (below_alloc (Below.refl _ wr) _) hb'
      have hown2 := pw_own_below HOW.out hb2
      have HOW2 := Aside0.mk hown2
      have f1 := own_frozen hown2 (k * 3)
      have f2 := own_frozen hown2 (k * 3 + 1)
      have f3 := own_frozen hown2 (k * 3 + 2)
      replace q1 := pw_cell_below hb2 q1
      replace q2 := pw_cell_below hb2 q2
      replace q3 := pw_cell_below hb2 q3
      have HB2 := Aside0.mk hb2
      have HON := Aside0.mk hown'
      clear hb2 hown2 hown' hb'
      go_wp2
      have hs1 := HOW2.out.stored (k * 3) (.int .u64 x.f0)
      have hs2 := hs1.1.stored (k * 3 + 1) (.int .u8 x.f1)
      have hs3 := hs2.1.stored (k * 3 + 2) (.slice A' x.f2.length c')
      have hset := heads_set hs (A', c') l 0 k x HX.out
      rw [Nat.zero_add] at hset
      have hown3 := hs3.1
      rw [hset] at hown3
      have hkp : Keeps (fun b => b = G) w2 (((w2.setCell ⟨G, k * 3, none⟩ (.int .u64 x.f0)).setCell ⟨G, k * 3 + 1, none⟩ (.int .u8 x.f1)).setCell ⟨G, k * 3 + 2, none⟩ (.slice A' x.f2.length c')) :=
        (((Keeps.refl (fun b => b = G) w2).setCell ⟨G, k * 3, none⟩ (.int .u64 x.f0) (by rfl)).setCell ⟨G, k * 3 + 1, none⟩ (.int .u8 x.f1) (by rfl)).setCell ⟨G, k * 3 + 2, none⟩ (.slice A' x.f2.length c') (by rfl)
      generalize (((w2.setCell ⟨G, k * 3, none⟩ (.int .u64 x.f0)).setCell ⟨G, k * 3 + 1, none⟩ (.int .u8 x.f1)).setCell ⟨G, k * 3 + 2, none⟩ (.slice A' x.f2.length c')) = W3 at *
      clear hs1 hs2 hs3
      have mv : ∀ {base n : Nat} {v : Value} {ys : List Value}, w2.ownsRow base 5 1 v n ys → W3.ownsRow base 5 1 v n ys := fun h => own_move h (fun b hb => hkp.block b (own_lt h b hb) (fun e => by
        subst e
        rcases own_type_ne h HOW2.out (by decide) with h' | h'
        · rw [h'] at hb; cases hb
        · exact h' hb))
      have hupd : ∀ j, j ≠ k → upd hs k (A', c') j = hs j := fun j hj => by unfold upd; rw [if_neg hj]
      have hupk : upd hs k (A', c') k = (A', c') := by unfold upd; rw [if_pos rfl]
      have hlo : ∀ b, (Value.slice A' 0 0).ownBlock = some b → wr.heap.size < b := fun b hb => by
        have := own_base HON.out b (by rw [← hb]; exact ownBlock_any _ _ _ _ _)
        simp at this; omega
      have hhi : ∀ i b, i < k → (Value.slice (hs i).1 0 0).ownBlock = some b → b < wr.heap.size := fun i b hi hb =>
        own_lt (HDA.out i _ hi (List.getElem?_eq_getElem (show i < l.length by omega))) b (by rw [← hb]; exact ownBlock_any _ _ _ _ _)
      refine ⟨⟨k + 1, upd hs k (A', c'), by omega, by go_num, hown3, fun j y hj hy => ?_, fun i j hi hj hij b hb => ?_, fun j hj => ?_, HBB.out.trans ((HB2.out.mono HBB.out.size).trans (hkp.below (by have := HBB.out.size; have := HB2.out.size; omega) (fun b hb e => by
        subst e
        have h9 : w.heap.size ≤ b := own_base HOW.out _ rfl
        omega)))⟩, by simp [intOf]; omega⟩
      · by_cases e : j = k
        · subst e
          rw [HX.out] at hy
          injection hy with hy
          subst hy
          rw [hupk]
          have h0 := HBB.out.size
          exact own_less (mv HON.out) (by simp; omega)
        · rw [hupd j e]
          exact mv (pw_own_below (HDA.out j y (by omega) hy) HB2.out)
      · by_cases e1 : i = k
        · subst e1
          rw [hupk] at hb
          rw [hupd j (by omega)]
          intro h
          have := hlo b hb
          have := hhi j b (by omega) h
          omega
        · rw [hupd i e1] at hb
          by_cases e2 : j = k
          · subst e2
            rw [hupk]
            intro h
            have := hlo b h
            have := hhi i b (by omega) hb
            omega
          · rw [hupd j e2]
            exact HAP.out i j (by omega) (by omega) hij b hb
      · rw [hupd j (by omega)]
        exact HSA.out j (by omega)
    · have hkl : k = l.length := by omega
      subst hkl
      have HOW := Aside0.mk hown
      have HDA := Aside0.mk hdata
      have HAP := Aside0.mk hap
      have HBB := Aside0.mk hB
      clear hown hdata hap hB hsame
      go_wp2
      go_ret
      exact ⟨_, hs, rfl, ⟨HOW.out, fun j x hx => HDA.out j x (List.getElem?_eq_some_iff.1 hx).1 hx, HAP.out⟩, HBB.out⟩
theorem own_calls (A : Option Addr) (c : Nat) (l : List S34) (w : World) (h : Kd.C k34 w A l.length l) (hm : l.length ≤ 1000000) (hd : ∀ x ∈ l, x.f2.length ≤ 1000000000) :
    Calls Try.prog 23 #[.slice A l.length c] w fun e w' => ∃ v hs, e = .returned v ∧ PO w' w.heap.size v l hs ∧ Below w.heap.size w w' := by
  have HR := Aside0.mk h
  have HD := Aside0.mk hd
  clear h hd
  go_enter Try.func23, Try.ntmps23
  go_wp2_with fail
  refine (copied_calls A c l w HR.out hm HD.out).mono ?_
  rintro e w1 ⟨v, hs, rfl, hpo, hb⟩
  obtain ⟨Av, cv, rfl⟩ := own_slice hpo.own
  have HP := Aside0.mk hpo
  have HB := Aside0.mk hb
  clear hpo hb
  go_wp2
  go_ret
  exact ⟨_, hs, rfl, HP.out, HB.out⟩
end Go.Proofs.Ytkpkgpopmodagaa.B
