import Derived.Test.YtppeidopijnnlaaDoorRegs
namespace Go.Proofs.YtppeidopijnnlaaDoor.B
open Go.RowKit Go.Proofs.YtppeidopijnnlaaDoorW.PrintWords Go.Proofs.YtppeidopijnnlaaDoorW.PrintMore Go.RF
set_option linter.unusedVariables false
set_option linter.unusedSimpArgs false
attribute [local go_sem] Oper.semAt_some
theorem infoI : (Tryd.prog.info? 3).map (fun i => (i.zero, i.size, i.bytes)) = some (some (.int .i64 0), 1, 8) := by kernel_rfl
theorem blk_store {W : World} {b : Nat} {v : Value} {t : Nat} (h : W.heap[b]? = some (.cells #[v] t (0, 0))) (u : Value) : (W.setCell ⟨b, 0, none⟩ u).heap[b]? = some (.cells #[u] t (0, 0)) := by
  obtain ⟨hb, e⟩ := Array.getElem?_eq_some_iff.1 h
  show (W.heap.modify b _)[b]? = _
  rw [Array.getElem?_modify, h]
  simp
set_option maxHeartbeats 8000000 in
set_option maxRecDepth 100000 in
theorem appendSeq_calls (gf : Nat) (lb : Array Value) (L : List Int) (w : World) (hL : L.length ≤ 1000000) (heg : ∀ args w, (callFunc gf args).run Tryd.prog w = .ok (.enter gf args) w)
    (hit : ∀ W, Keeps (fun _ => False) w W → Iter Tryd.prog gf lb encI (fun _ => False) (fun k => k = w.heap.size) L W) :
    Calls Tryd.prog 38 #[.slice none 0 0, .func (.func gf) #[] lb] w fun e w' => ∃ v, e = .returned v ∧ w'.ownsRow w.heap.size 3 1 v L.length (nums .i64 L) ∧ Below w.heap.size w w' := by
  have HIT := Aside0.mk hit
  have HEG := Aside0.mk heg
  clear hit heg
  refine calls_of_marks Tryd.func38 rfl ?_
  simp only [Tryd.ntmps38, List.size_toArray, List.length_cons, List.length_nil, Nat.reduceAdd, Nat.reduceSub, Array.replicate_succ, Array.replicate_zero, List.push_toArray, List.append_toArray, List.nil_append, List.cons_append]
  go_wp2_with fail
  have b0 := World.alloc_heap_new w (.cells #[.slice none 0 0] 37)
  have hbl : Below w.heap.size w (w.alloc (.cells #[.slice none 0 0] 37)) := below_alloc (Below.refl _ _) _
  have hkw : Keeps (fun _ => False) w (w.alloc (.cells #[.slice none 0 0] 37)) := (Keeps.refl _ _).alloc _
  have hsz : (w.alloc (.cells #[.slice none 0 0] 37)).heap.size = w.heap.size + 1 := World.size_alloc _ _
  generalize w.alloc (.cells #[.slice none 0 0] 37) = w1 at *
  refine wp_range_plain (α := Int) (gf := gf) rfl HEG.out (encs := encI) (Q := fun _ => False) (R := fun k => k = w.heap.size) (L := L)
    (fun W hk => HIT.out W (hkw.trans hk)) (fun k h => h.elim) (fun k h => by omega) (fun _ => rfl)
    (fun pre W => Below w.heap.size w W ∧ ∃ v, W.heap[w.heap.size]? = some (.cells #[v] 37 (0, 0)) ∧ W.ownsRow (w1.heap.size + 2) 3 1 v pre.length (nums .i64 pre))
    (fun _ _ _ => False)
    (fun s A B hs' hk => ⟨hs'.1.trans (hk.below hs'.1.size (fun k hk' h => by rcases h with h | h; exact h.elim; omega)), by
      obtain ⟨v, h1, h2⟩ := hs'.2
      exact ⟨v, hk.at_ h1 (by rintro (h | h); exact h.elim; omega), own_move h2 (fun k hk' => hk.block k (own_lt h2 k hk') (by have := own_base h2 k hk'; rintro (h | h); exact h.elim; omega))⟩⟩)
    (fun _ _ _ _ h _ => h.elim) ⟨hbl, _, b0, own_nil _ _ _ _⟩ ?_ ?assign ?body ?done ?stop
  case assign =>
    intro lp x W K hK
    simp only [encI]
    gi_wp2
    exact hK
  case stop =>
    intro c pre suf W _ h _
    exact h.elim
  case done =>
    rintro W ⟨hB, v, h1, h2⟩ hd
    obtain ⟨Av, cv, rfl⟩ := own_slice h2
    have c1 := (cell_of_block h1).1
    have HB := Aside0.mk hB
    have H2 := Aside0.mk h2
    have HDD := Aside0.mk hd
    clear hB h1 h2 hd
    go_wp2
    have hkp : Keeps (fun k => k = w1.heap.size) W (W.putObj w1.heap.size (.deferred none)) := (Keeps.refl _ _).putObj _ _ rfl
    refine leave_mark (D := w1.heap.size) (v := .slice Av L.length cv) rfl HDD.out (by simp [results, Tryd.f38, go_sem]) ⟨_, rfl, own_less (own_move H2.out (fun k hk => hkp.block k (own_lt H2.out k hk) (by have := own_base H2.out k hk; omega))) (by omega), HB.out.trans (hkp.below HB.out.size (fun k hk h => by omega))⟩
  case body =>
    rintro lp pre x suf W hLL hsz' ⟨hB, v, h1, h2⟩
    obtain ⟨Av, cv, rfl⟩ := own_slice h2
    have hpl : pre.length + 1 ≤ 1000000 := by rw [hLL] at hL; simp at hL; omega
    have c1 := (cell_of_block h1).1
    have f1 := (cell_of_block h1).2
    have HB := Aside0.mk hB
    have H1 := Aside0.mk h1
    obtain ⟨i0, hi, hzz⟩ := Option.map_eq_some_iff.1 infoI
    simp only [Prod.mk.injEq] at hzz
    obtain ⟨hz0, hz1, hz2⟩ := hzz
    clear hB h1 b0
    have hne : ∀ k, (Value.slice Av pre.length cv).ownBlock = some k → k ≠ w.heap.size := fun k hk => by have := own_base h2 k hk; omega
    gi_wp2_with (gi_at_builtin; go_loud (refine wpListIn_append_own _ rfl _ _ 37 rfl (w1.heap.size + 2) 3 i0 (.int .i64 0) 1 8 Tryd.underlying37 hi hz0 hz1 hz2 rfl (by decide) (.slice Av pre.length cv) pre.length (nums .i64 pre) rfl ?c0 ⟨W.heap.size, 0, none⟩ 1 1 [.int .i64 x] rfl rfl ?c1 ?c2 ?c3 ?c4 ?c5 ?_))
    case c0 => exact own_alloc h2 _
    case c1 =>
      intro j u hu
      cases j with
      | zero =>
        simp at hu
        subst hu
        simp [Addr.add]
      | succ j => simp at hu
    case c2 => intro u hu; simp at hu; subst hu; rfl
    case c3 => unfold maxLen; omega
    case c4 => omega
    case c5 => simp; omega
    intro v' W' hown' hgrow _
    obtain ⟨A', c', rfl⟩ := own_slice hown'
    have hal : (W.alloc (.cells #[.int .i64 x] 3)).heap[w.heap.size]? = some (.cells #[.slice Av pre.length cv] 37 (0, 0)) := (Below.heap_alloc _ _ _ (Array.getElem?_eq_some_iff.1 H1.out).1).trans H1.out
    have h1' := (hgrow.block w.heap.size (Array.getElem?_eq_some_iff.1 hal).1 (fun e => hne _ e.symm rfl)).trans hal
    have c1' := (cell_of_block h1').1
    have f1' := (cell_of_block h1').2
    have H1' := Aside0.mk h1'
    have HO' := Aside0.mk hown'
    have HG' := Aside0.mk hgrow
    have HO := Aside0.mk h2
    clear h1' hown' hgrow c1 f1 hne h2 hal
    gi_wp2
    have hkp : Keeps (fun k => k = w.heap.size ∨ w1.heap.size + 2 ≤ k) W (W'.setCell ⟨w.heap.size, 0, none⟩ (.slice A' (pre.length + 1) c')) :=
      Keeps.setCell (((Keeps.refl _ W).alloc _).trans (Keeps.of_grown HG'.out (fun k e => .inr (own_base HO.out k e)))) _ _ (.inl rfl)
    refine ⟨hkp, HB.out.trans (hkp.below HB.out.size (fun k hk h => by omega)), _, blk_store H1'.out _, ?_⟩
    rw [List.length_append, List.length_singleton, nums_append, hsz]
    exact own_move HO'.out (fun k hk => Below.heap_setCell W' _ _ k (by have := own_base HO'.out k hk; show k ≠ w.heap.size; omega))
end Go.Proofs.YtppeidopijnnlaaDoor.B
