import Derived.Test.YtkpkgpopmodagaaClone
namespace Go.Proofs.Ytkpkgpopmodagaa.B
open Go.RowKit Go.Proofs.YtkpkgpopmodagaaW.PrintWords Go.Proofs.YtkpkgpopmodagaaW.PrintLast Go.Proofs.YtkpkgpopmodagaaW.PrintMore Go.RF
set_option linter.unusedVariables false
set_option linter.unusedSimpArgs false

set_option maxRecDepth 100000 in
theorem own1_calls (x : S34) (A2 : Option Addr) (c2 : Nat) (w : World) (h : Kd.C (Kd.int .u8) w A2 x.f2.length x.f2) (hm : x.f2.length ≤ 1000000000) :
    Calls Try.prog 31 #[.agg #[.int .u64 x.f0, .int .u8 x.f1, .slice A2 x.f2.length c2]] w fun e w' => ∃ A' c', e = .returned (.agg #[.int .u64 x.f0, .int .u8 x.f1, .slice A' x.f2.length c']) ∧
      w'.ownsRow w.heap.size 5 1 (.slice A' x.f2.length c') x.f2.length (nums .u8 x.f2) ∧ Below w.heap.size w w' := by
  have HR := Aside0.mk h
  clear h
  have hu34 := Try.underlying34
  go_enter Try.func31, Try.ntmps31
  go_wp2_with fail
  refine (clone_bytes A2 c2 x.f2 _ (Kd.C_alloc (Kd.C_alloc HR.out _) _) hm).mono ?_
  rintro e w1 ⟨v, rfl, hown, hb⟩
  obtain ⟨A', c', rfl⟩ := own_slice hown
  have k0 := heap_below hb (heap_alloc_old (w.alloc (.cells #[.int .u64 x.f0, .int .u8 x.f1, .slice A2 x.f2.length c2] 34)) (.cells #[.int .u64 0, .int .u8 0, .slice none 0 0] 34) (World.alloc_heap_new w _))
  have k1 := heap_below hb (World.alloc_heap_new (w.alloc (.cells #[.int .u64 x.f0, .int .u8 x.f1, .slice A2 x.f2.length c2] 34)) (.cells #[.int .u64 0, .int .u8 0, .slice none 0 0] 34))
  rw [World.size_alloc] at k1
  have a0 := (blk_cell k0 0).trans rfl
  have a1 := (blk_cell k0 1).trans rfl
  have a2 := (blk_cell k0 2).trans rfl
  have a3 := blk_frozen k0 2
  have d0 := (blk_cell k1 0).trans rfl
  have d1 := (blk_cell k1 1).trans rfl
  have d2 := (blk_cell k1 2).trans rfl
  have d3 := blk_frozen k1 0
  have d4 := blk_frozen k1 1
  have d5 := blk_frozen k1 2
  have K0 := Aside0.mk k0
  have K1 := Aside0.mk k1
  have HO := Aside0.mk hown
  have HB := Aside0.mk (below_step (below_alloc (below_alloc (Below.refl w.heap.size w) _) _) hb)
  clear k0 k1 hown hb
  go_wp2
  have e1 := blk_set (blk_set (blk_set (blk_far K1.out (p := ⟨w.heap.size, 2, none⟩) (by simp) (.slice A' x.f2.length c')) 0 (.int .u64 x.f0)) 1 (.int .u8 x.f1)) 2 (.slice A' x.f2.length c')
  have hk : Keeps (fun k => k = w.heap.size ∨ k = w.heap.size + 1) w1 ((((w1.setCell ⟨w.heap.size, 2, none⟩ (.slice A' x.f2.length c')).setCell ⟨w.heap.size + 1, 0, none⟩ (.int .u64 x.f0)).setCell ⟨w.heap.size + 1, 1, none⟩ (.int .u8 x.f1)).setCell ⟨w.heap.size + 1, 2, none⟩ (.slice A' x.f2.length c')) :=
    ((((Keeps.refl _ _).setCell _ _ (.inl rfl)).setCell _ _ (.inr rfl)).setCell _ _ (.inr rfl)).setCell _ _ (.inr rfl)
  generalize ((((w1.setCell ⟨w.heap.size, 2, none⟩ (.slice A' x.f2.length c')).setCell ⟨w.heap.size + 1, 0, none⟩ (.int .u64 x.f0)).setCell ⟨w.heap.size + 1, 1, none⟩ (.int .u8 x.f1)).setCell ⟨w.heap.size + 1, 2, none⟩ (.slice A' x.f2.length c')) = W2 at *
  have q0 := (blk_cell e1 0).trans rfl
  have q1 := (blk_cell e1 1).trans rfl
  have q2 := (blk_cell e1 2).trans rfl
  refine bodyPost_ret (v := .agg #[.int .u64 x.f0, .int .u8 x.f1, .slice A' x.f2.length c']) (by simp [results, Try.f31, go_sem, hu34, q0, q1, q2]) rfl ⟨A', c', rfl, ?_, HB.out.trans (hk.below HB.out.size (fun k hk' h => by omega))⟩
  have hb0 := HO.out
  simp only [World.size_alloc] at hb0
  exact own_less (own_move hb0 (fun k hk' => hk.block k (own_lt hb0 k hk') (by have := own_base hb0 k hk'; omega))) (by omega)
end Go.Proofs.Ytkpkgpopmodagaa.B
