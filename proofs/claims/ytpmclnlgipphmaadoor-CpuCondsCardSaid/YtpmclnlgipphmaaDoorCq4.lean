/- Flags packed and unpacked. -/
import Derived.Test.YtpmclnlgipphmaaDoorCq3
import Derived.Laws.BitsLemmas
import Derived.Shelf.Abstract
namespace Go.Proofs.YtpmclnlgipphmaaDoor.B
open Go.RowKit Go.Proofs.YtpmclnlgipphmaaDoorW.PrintWords Go.Proofs.YtpmclnlgipphmaaDoorW.PrintMore Go.RF
set_option linter.unusedVariables false
set_option linter.unusedSimpArgs false
attribute [local go_sem] Oper.semAt_some
set_option maxRecDepth 100000 in
theorem bits_calls (fb : Nat) (w : World) :
    Calls Tryd.prog 20 #[.pointer (some ⟨fb, 0, none⟩)] w fun e w' =>
      e = .returned (.func (.func 24) #[] #[.pointer (some ⟨w.heap.size, 0, none⟩)]) ∧ w'.heap[w.heap.size]? = some (.cells #[.pointer (some ⟨fb, 0, none⟩)] 58 (0, 0)) ∧ Below w.heap.size w w' := by
  go_enter Tryd.func20, Tryd.ntmps20
  go_wp2_with fail
  go_ret
  exact ⟨rfl, World.alloc_heap_new w _, bX_ (Below.refl _ _) _⟩
def flagAt (C Z S O P : Bool) (i : Nat) : Bool := if i = 0 then C else if i = 1 then Z else if i = 2 then S else if i = 3 then O else P
def packL (C Z S O P : Bool) (l : List (Nat × Int)) : Int := l.foldl (fun b x => if flagAt C Z S O P x.1 = true then Go.bits .or .u8 b x.2 else b) 0
theorem packL_snoc (C Z S O P : Bool) (l : List (Nat × Int)) (x : Nat × Int) : packL C Z S O P (l ++ [x]) = if flagAt C Z S O P x.1 = true then Go.bits .or .u8 (packL C Z S O P l) x.2 else packL C Z S O P l := by
  unfold packL
  rw [List.foldl_append]
  rfl
theorem results_b {T : Array Value} {W : World} {b : Nat} {v : Value} (h : W.heap[b]? = some (.cells #[v] 5 (0, 0))) (ht : T.getD 2 undef = .pointer (some ⟨b, 0, none⟩)) :
    (results Tryd.f14 T).run Tryd.prog W = .ok v W := by
  have q := (cell_of_block h).1
  have hu := Tryd.underlying5
  have ht1 : T[2]?.getD undef = .pointer (some ⟨b, 0, none⟩) := by rw [← ht]; simp
  simp only [results, show Tryd.f14.results = #[.cell 2 5] from rfl]
  simp [go_sem, ht1, q]
set_option maxHeartbeats 8000000 in
set_option maxRecDepth 100000 in
theorem packed_calls (C Z S O P : Bool) (w : World) :
    Calls Tryd.prog 14 #[.agg #[.bool C, .bool Z, .bool S, .bool O, .bool P]] w fun e w' => e = .returned (.int .u8 (packL C Z S O P bitsL)) ∧ Below w.heap.size w w' := by
  refine calls_of_end Tryd.func14 rfl ?_
  simp only [Tryd.ntmps14, List.size_toArray, List.length_cons, List.length_nil, Nat.reduceAdd, Nat.reduceSub, Array.replicate_succ, Array.replicate_zero, List.push_toArray, List.append_toArray, List.nil_append, List.cons_append]
  go_wp2_with fail
  have b0 := World.alloc_heap_new w (.cells #[.bool C, .bool Z, .bool S, .bool O, .bool P] 27)
  have b1 := World.alloc_heap_new (w.alloc (.cells #[.bool C, .bool Z, .bool S, .bool O, .bool P] 27)) (.cells #[.int .u8 0] 5)
  rw [World.size_alloc] at b1
  have b0' := (Below.heap_alloc (w.alloc (.cells #[.bool C, .bool Z, .bool S, .bool O, .bool P] 27)) (.cells #[.int .u8 0] 5) _ (Array.getElem?_eq_some_iff.1 b0).1).trans b0
  have hbl : Below w.heap.size w ((w.alloc (.cells #[.bool C, .bool Z, .bool S, .bool O, .bool P] 27)).alloc (.cells #[.int .u8 0] 5)) := bX_ (bX_ (Below.refl _ _) _) _
  have B0 := Aside0.mk b0'
  have B1 := Aside0.mk b1
  have HB := Aside0.mk hbl
  clear b0 b1 b0' hbl
  generalize (w.alloc (.cells #[.bool C, .bool Z, .bool S, .bool O, .bool P] 27)).alloc (.cells #[.int .u8 0] 5) = w1 at *
  refine (bits_calls w.heap.size w1).mono ?_
  rintro e w2 ⟨rfl, hp, hb2⟩
  have hl1 : w.heap.size + 1 < w1.heap.size := blk_lt B1.out
  have B02 := Aside0.mk (blk_below B0.out hb2)
  have B12 := Aside0.mk (blk_below B1.out hb2)
  have HB2 := Aside0.mk (HB.out.trans (hb2.mono HB.out.size))
  have HP2 := Aside0.mk hp
  have hlp : w1.heap.size < w2.heap.size := blk_lt hp
  clear B0 B1 HB hb2 hp
  go_wp2_with fail
  refine wp_range_plain (α := Nat × Int) (gf := 24) rfl (enters_of Tryd.func24 (by kernel_rfl) rfl) (encs := encF w.heap.size) (Q := fun _ => False) (R := fun k => k = w.heap.size + 1) (L := bitsL)
    (fun W hk => bits_iter _ _ W _ (hk.at_ HP2.out (fun h => h)) (fun k h => by omega)) (fun k h => h.elim) (fun k h => by omega) (fun _ => rfl)
    (fun pre W => Below w.heap.size w W ∧ W.heap[w.heap.size]? = some (.cells #[.bool C, .bool Z, .bool S, .bool O, .bool P] 27 (0, 0)) ∧ W.heap[w.heap.size + 1]? = some (.cells #[.int .u8 (packL C Z S O P pre)] 5 (0, 0)))
    (fun _ _ _ => False)
    (fun s A B hs' hk => ⟨hs'.1.trans (hk.below hs'.1.size (fun k hk' h => by rcases h with h | h; exact h.elim; omega)), hk.at_ hs'.2.1 (by rintro (h | h); exact h.elim; omega), hk.at_ hs'.2.2 (by rintro (h | h); exact h.elim; omega)⟩)
    (fun _ _ _ _ h _ => h.elim) ⟨HB2.out, B02.out, B12.out⟩ ?_ ?assign ?body ?done ?stop
  case assign =>
    intro lp x W K hK
    simp only [encF]
    gi_wp2
    exact hK
  case stop =>
    intro c pre suf W _ h _
    exact h.elim
  case done =>
    rintro W ⟨hB, h0, h1⟩ hd
    obtain ⟨c1, f1⟩ := cell_of_block h1
    have HB := Aside0.mk hB
    have H1 := Aside0.mk h1
    have HDD := Aside0.mk hd
    clear hB h0 h1 hd
    go_wp2
    have hkp : Keeps (fun k => k = w2.heap.size) (W.setCell ⟨w.heap.size + 1, 0, none⟩ (.int .u8 (packL C Z S O P bitsL))) ((W.setCell ⟨w.heap.size + 1, 0, none⟩ (.int .u8 (packL C Z S O P bitsL))).putObj w2.heap.size (.deferred none)) := (Keeps.refl _ _).putObj _ _ rfl
    refine end_mark (D := w2.heap.size) rfl ((Below.heap_setCell W _ _ _ (by show w2.heap.size ≠ w.heap.size + 1; omega)).trans HDD.out) (results_b (hkp.at_ (blk_store H1.out _) (by omega)) rfl) ⟨rfl, ?_⟩
    exact (HB.out.trans ((((Keeps.refl (fun k => k = w.heap.size + 1) W).setCell ⟨w.heap.size + 1, 0, none⟩ _ rfl).below HB.out.size (fun k hk h => by omega)))).trans (hkp.below (by rw [World.size_setCell]; exact HB.out.size) (fun k hk h => by omega))
  case body =>
    rintro lp pre x suf W hLL hsz' ⟨hB, h0, h1⟩
    obtain ⟨c1, f1⟩ := cell_of_block h1
    have hx : x = (0, 1) ∨ x = (4, 4) ∨ x = (3, 8) ∨ x = (1, 64) ∨ x = (2, 128) := by
      have hm : x ∈ bitsL := by rw [hLL]; simp
      simpa [bitsL] using hm
    have cf : W.cell? ⟨w.heap.size, x.1, none⟩ = some (.bool (flagAt C Z S O P x.1)) := by
      rw [bC_ h0]
      rcases hx with rfl | rfl | rfl | rfl | rfl <;> rfl
    have hps : packL C Z S O P (pre ++ [x]) = _ := packL_snoc C Z S O P pre x
    have HPS := Aside0.mk hps
    have HB := Aside0.mk hB
    have H0 := Aside0.mk h0
    have H1 := Aside0.mk h1
    clear hps hB h0 h1 hx hLL
    obtain ⟨x1, x2⟩ := x
    simp only at cf HPS
    obtain ⟨fl, hfl⟩ : ∃ f, flagAt C Z S O P x1 = f := ⟨_, rfl⟩
    rw [hfl] at cf HPS
    clear hfl
    obtain ⟨pk, hpk⟩ : ∃ p, packL C Z S O P pre = p := ⟨_, rfl⟩
    rw [hpk] at HPS H1 c1
    clear hpk
    cases fl
    · gi_wp2
      refine ⟨Keeps.refl _ _, HB.out, H0.out, ?_⟩
      rw [HPS.out]
      exact H1.out
    · gi_wp2
      have hkp : Keeps (fun k => k = w.heap.size + 1 ∨ w2.heap.size + 2 ≤ k) W (W.setCell ⟨w.heap.size + 1, 0, none⟩ (.int .u8 (Go.bits .or .u8 pk x2))) := (Keeps.refl _ W).setCell _ _ (.inl rfl)
      refine ⟨hkp, HB.out.trans (hkp.below HB.out.size (fun k hk h => by omega)), hkp.at_ H0.out (by omega), ?_⟩
      rw [HPS.out]
      exact blk_store H1.out _
def unpackA (b : Int) (l : List (Nat × Int)) : Array Value := l.foldl (fun A x => A.setIfInBounds x.1 (.bool (Go.bits .and .u8 b x.2 != 0))) #[.bool false, .bool false, .bool false, .bool false, .bool false]
theorem unpackA_snoc (b : Int) (l : List (Nat × Int)) (x : Nat × Int) : unpackA b (l ++ [x]) = (unpackA b l).setIfInBounds x.1 (.bool (Go.bits .and .u8 b x.2 != 0)) := by
  unfold unpackA
  rw [List.foldl_append]
  rfl
theorem unpackA_size (b : Int) (l : List (Nat × Int)) : (unpackA b l).size = 5 := by
  unfold unpackA
  suffices h : ∀ (l : List (Nat × Int)) (A : Array Value), A.size = 5 → (l.foldl (fun A x => A.setIfInBounds x.1 (.bool (Go.bits .and .u8 b x.2 != 0))) A).size = 5 from h l _ rfl
  intro l
  induction l with
  | nil => intro A h; exact h
  | cons x l ih => intro A h; exact ih _ (by simpa using h)
theorem unpackA_all (b : Int) : unpackA b bitsL = #[.bool (Go.bits .and .u8 b 1 != 0), .bool (Go.bits .and .u8 b 64 != 0), .bool (Go.bits .and .u8 b 128 != 0), .bool (Go.bits .and .u8 b 8 != 0), .bool (Go.bits .and .u8 b 4 != 0)] := rfl
theorem rows5 {W : World} {b : Nat} {v0 v1 v2 v3 v4 : Value} {t : Nat} (h : W.heap[b]? = some (.cells #[v0, v1, v2, v3, v4] t (0, 0))) :
    (W.cell? ⟨b, 0, none⟩ = some v0 ∧ W.cell? ⟨b, 1, none⟩ = some v1 ∧ W.cell? ⟨b, 2, none⟩ = some v2 ∧ W.cell? ⟨b, 3, none⟩ = some v3 ∧ W.cell? ⟨b, 4, none⟩ = some v4)
    ∧ (W.frozen? ⟨b, 0, none⟩ = false ∧ W.frozen? ⟨b, 1, none⟩ = false ∧ W.frozen? ⟨b, 2, none⟩ = false ∧ W.frozen? ⟨b, 3, none⟩ = false ∧ W.frozen? ⟨b, 4, none⟩ = false) :=
  ⟨⟨by rw [bC_ h]; rfl, by rw [bC_ h]; rfl, by rw [bC_ h]; rfl, by rw [bC_ h]; rfl, by rw [bC_ h]; rfl⟩,
   bF_ h 0, bF_ h 1, bF_ h 2, bF_ h 3, bF_ h 4⟩
theorem set5 {W : World} {b : Nat} {v0 v1 v2 v3 v4 : Value} {t : Nat} (h : W.heap[b]? = some (.cells #[v0, v1, v2, v3, v4] t (0, 0))) (u0 u1 u2 u3 u4 : Value) :
    (((((W.setCell ⟨b, 0, none⟩ u0).setCell ⟨b, 1, none⟩ u1).setCell ⟨b, 2, none⟩ u2).setCell ⟨b, 3, none⟩ u3).setCell ⟨b, 4, none⟩ u4).heap[b]? = some (.cells #[u0, u1, u2, u3, u4] t (0, 0))
    ∧ Keeps (fun k => k = b) W (((((W.setCell ⟨b, 0, none⟩ u0).setCell ⟨b, 1, none⟩ u1).setCell ⟨b, 2, none⟩ u2).setCell ⟨b, 3, none⟩ u3).setCell ⟨b, 4, none⟩ u4) := by
  constructor
  · have e := blk_set1 (blk_set1 (blk_set1 (blk_set1 (blk_set1 h 0 u0) 1 u1) 2 u2) 3 u3) 4 u4
    simp only [List.setIfInBounds_toArray, List.set_cons_zero, List.set_cons_succ] at e
    exact e
  · repeat (refine Keeps.setCell ?_ _ _ rfl)
    exact Keeps.refl _ _
theorem results_f {T : Array Value} {W : World} {b : Nat} {v0 v1 v2 v3 v4 : Value} (h : W.heap[b]? = some (.cells #[v0, v1, v2, v3, v4] 27 (0, 0))) (ht : T.getD 2 undef = .pointer (some ⟨b, 0, none⟩)) :
    (results Tryd.f13 T).run Tryd.prog W = .ok (.agg #[v0, v1, v2, v3, v4]) W := by
  obtain ⟨⟨q0, q1, q2, q3, q4⟩, -⟩ := rows5 h
  have hu := Tryd.underlying27
  have ht1 : T[2]?.getD undef = .pointer (some ⟨b, 0, none⟩) := by rw [← ht]; simp
  simp only [results, show Tryd.f13.results = #[.cell 2 27] from rfl]
  simp [go_sem, ht1, q0, q1, q2, q3, q4, hu]
set_option maxHeartbeats 8000000 in
set_option maxRecDepth 100000 in
theorem unpacked_calls (b : Int) (w : World) :
    Calls Tryd.prog 13 #[.int .u8 b] w fun e w' => e = .returned (.agg #[.bool (Go.bits .and .u8 b 1 != 0), .bool (Go.bits .and .u8 b 64 != 0), .bool (Go.bits .and .u8 b 128 != 0), .bool (Go.bits .and .u8 b 8 != 0), .bool (Go.bits .and .u8 b 4 != 0)]) ∧ Below w.heap.size w w' := by
  refine calls_of_end Tryd.func13 rfl ?_
  simp only [Tryd.ntmps13, List.size_toArray, List.length_cons, List.length_nil, Nat.reduceAdd, Nat.reduceSub, Array.replicate_succ, Array.replicate_zero, List.push_toArray, List.append_toArray, List.nil_append, List.cons_append]
  have hu27 := Tryd.underlying27
  go_wp2_with fail
  have b0 := World.alloc_heap_new w (.cells #[.int .u8 b] 5)
  have b1 := World.alloc_heap_new (w.alloc (.cells #[.int .u8 b] 5)) (.cells #[.bool false, .bool false, .bool false, .bool false, .bool false] 27)
  rw [World.size_alloc] at b1
  have b0' := (Below.heap_alloc (w.alloc (.cells #[.int .u8 b] 5)) (.cells #[.bool false, .bool false, .bool false, .bool false, .bool false] 27) _ (Array.getElem?_eq_some_iff.1 b0).1).trans b0
  have hbl : Below w.heap.size w ((w.alloc (.cells #[.int .u8 b] 5)).alloc (.cells #[.bool false, .bool false, .bool false, .bool false, .bool false] 27)) := bX_ (bX_ (Below.refl _ _) _) _
  have B0 := Aside0.mk b0'
  have B1 := Aside0.mk b1
  have HB := Aside0.mk hbl
  clear b0 b1 b0' hbl
  generalize (w.alloc (.cells #[.int .u8 b] 5)).alloc (.cells #[.bool false, .bool false, .bool false, .bool false, .bool false] 27) = w1 at *
  refine (bits_calls (w.heap.size + 1) w1).mono ?_
  rintro e w2 ⟨rfl, hp, hb2⟩
  have hl1 : w.heap.size + 1 < w1.heap.size := blk_lt B1.out
  have B02 := Aside0.mk (blk_below B0.out hb2)
  have B12 := Aside0.mk (blk_below B1.out hb2)
  have HB2 := Aside0.mk (HB.out.trans (hb2.mono HB.out.size))
  have HP2 := Aside0.mk hp
  have hlp : w1.heap.size < w2.heap.size := blk_lt hp
  clear B0 B1 HB hb2 hp
  go_wp2_with fail
  refine wp_range_plain (α := Nat × Int) (gf := 24) rfl (enters_of Tryd.func24 (by kernel_rfl) rfl) (encs := encF (w.heap.size + 1)) (Q := fun _ => False) (R := fun k => k = w.heap.size + 1) (L := bitsL)
    (fun W hk => bits_iter _ _ W _ (hk.at_ HP2.out (fun h => h)) (fun k h => by omega)) (fun k h => h.elim) (fun k h => by omega) (fun _ => rfl)
    (fun pre W => Below w.heap.size w W ∧ W.heap[w.heap.size]? = some (.cells #[.int .u8 b] 5 (0, 0)) ∧ W.heap[w.heap.size + 1]? = some (.cells (unpackA b pre) 27 (0, 0)))
    (fun _ _ _ => False)
    (fun s A B hs' hk => ⟨hs'.1.trans (hk.below hs'.1.size (fun k hk' h => by rcases h with h | h; exact h.elim; omega)), hk.at_ hs'.2.1 (by rintro (h | h); exact h.elim; omega), hk.at_ hs'.2.2 (by rintro (h | h); exact h.elim; omega)⟩)
    (fun _ _ _ _ h _ => h.elim) ⟨HB2.out, B02.out, B12.out⟩ ?_ ?assign ?body ?done ?stop
  case assign =>
    intro lp x W K hK
    simp only [encF]
    gi_wp2
    exact hK
  case stop =>
    intro c pre suf W _ h _
    exact h.elim
  case done =>
    rintro W ⟨hB, h0, h1⟩ hd
    rw [unpackA_all] at h1
    obtain ⟨x0, hx0⟩ : ∃ x, (Go.bits .and .u8 b 1 != 0) = x := ⟨_, rfl⟩
    rw [hx0] at h1
    have HX0 := Aside0.mk hx0
    clear hx0
    obtain ⟨x1, hx1⟩ : ∃ x, (Go.bits .and .u8 b 64 != 0) = x := ⟨_, rfl⟩
    rw [hx1] at h1
    have HX1 := Aside0.mk hx1
    clear hx1
    obtain ⟨x2, hx2⟩ : ∃ x, (Go.bits .and .u8 b 128 != 0) = x := ⟨_, rfl⟩
    rw [hx2] at h1
    have HX2 := Aside0.mk hx2
    clear hx2
    obtain ⟨x3, hx3⟩ : ∃ x, (Go.bits .and .u8 b 8 != 0) = x := ⟨_, rfl⟩
    rw [hx3] at h1
    have HX3 := Aside0.mk hx3
    clear hx3
    obtain ⟨x4, hx4⟩ : ∃ x, (Go.bits .and .u8 b 4 != 0) = x := ⟨_, rfl⟩
    rw [hx4] at h1
    have HX4 := Aside0.mk hx4
    clear hx4
    obtain ⟨⟨q0, q1, q2, q3, q4⟩, z0, z1, z2, z3, z4⟩ := rows5 h1
    obtain ⟨hset, hkeep⟩ := set5 h1 (.bool x0) (.bool x1) (.bool x2) (.bool x3) (.bool x4)
    have HSET := Aside0.mk hset
    have HKEEP := Aside0.mk hkeep
    have HB := Aside0.mk hB
    have HDD := Aside0.mk hd
    clear hB h0 h1 hd hset hkeep
    go_wp2
    generalize (((((W.setCell ⟨w.heap.size + 1, 0, none⟩ (.bool x0)).setCell ⟨w.heap.size + 1, 1, none⟩ (.bool x1)).setCell ⟨w.heap.size + 1, 2, none⟩ (.bool x2)).setCell ⟨w.heap.size + 1, 3, none⟩ (.bool x3)).setCell ⟨w.heap.size + 1, 4, none⟩ (.bool x4)) = W3 at *
    have hkp : Keeps (fun k => k = w2.heap.size) W3 (W3.putObj w2.heap.size (.deferred none)) := (Keeps.refl _ _).putObj _ _ rfl
    refine end_mark (D := w2.heap.size) rfl (HKEEP.out.at_ HDD.out (by omega)) (results_f (hkp.at_ HSET.out (by omega)) rfl) ⟨by rw [HX0.out, HX1.out, HX2.out, HX3.out, HX4.out], ?_⟩
    exact (HB.out.trans (HKEEP.out.below HB.out.size (fun k hk h => by omega))).trans (hkp.below (Nat.le_trans HB.out.size HKEEP.out.size) (fun k hk h => by omega))
  case body =>
    rintro lp pre x suf W hLL hsz' ⟨hB, h0, h1⟩
    obtain ⟨c1, f1⟩ := cell_of_block h0
    have hx : x.1 < 5 := by
      have hm : x ∈ bitsL := by rw [hLL]; simp
      have hm2 : x = (0, 1) ∨ x = (4, 4) ∨ x = (3, 8) ∨ x = (1, 64) ∨ x = (2, 128) := by simpa [bitsL] using hm
      rcases hm2 with rfl | rfl | rfl | rfl | rfl <;> decide
    obtain ⟨cf, hcf⟩ : ∃ v, W.cell? ⟨w.heap.size + 1, x.1, none⟩ = some v := by
      rw [bC_ h1]
      exact ⟨_, Array.getElem?_eq_getElem (by rw [unpackA_size]; exact hx)⟩
    have ff := bF_ h1 x.1
    have hps : unpackA b (pre ++ [x]) = _ := unpackA_snoc b pre x
    have HPS := Aside0.mk hps
    have HB := Aside0.mk hB
    have H0 := Aside0.mk h0
    have H1 := Aside0.mk h1
    clear hps hB h0 h1 hx hLL
    obtain ⟨x1, x2⟩ := x
    simp only at hcf ff HPS
    gi_wp2
    have hkp : Keeps (fun k => k = w.heap.size + 1 ∨ w2.heap.size + 2 ≤ k) W (W.setCell ⟨w.heap.size + 1, x1, none⟩ (.bool (Go.bits .and .u8 b x2 != 0))) := (Keeps.refl _ W).setCell _ _ (.inl rfl)
    refine ⟨hkp, HB.out.trans (hkp.below HB.out.size (fun k hk h => by omega)), hkp.at_ H0.out (by omega), ?_⟩
    rw [HPS.out]
    exact blk_set1 H1.out _ _
end Go.Proofs.YtpmclnlgipphmaaDoor.B
namespace Go.Proofs.YtpmclnlgipphmaaDoor.B
open Go.RowKit Go.Proofs.YtpmclnlgipphmaaDoorW.PrintWords Go.Proofs.YtpmclnlgipphmaaDoorW.PrintLast Go.Proofs.YtpmclnlgipphmaaDoorW.PrintMore
attribute [local go_sem] max2_int min2_int max_two min_two max_three min_three max_four min_four   -- for this text's walks alone
set_option linter.unusedVariables false
set_option linter.unusedSimpArgs false
def cpu_holds_1.f (a0_0 : Bool) (a0_1 : Bool) (a0_2 : Bool) (a0_3 : Bool) (a0_4 : Bool) : Option (Bool) := some a0_3
set_option maxHeartbeats 8000000 in
set_option maxRecDepth 100000 in
theorem cpu_holds_1.calls (a0_0 : Bool) (a0_1 : Bool) (a0_2 : Bool) (a0_3 : Bool) (a0_4 : Bool) (r : Bool) (w : World) (h : cpu_holds_1.f a0_0 a0_1 a0_2 a0_3 a0_4 = some r) :
    Calls Tryd.prog 41 #[.agg #[.bool a0_0, .bool a0_1, .bool a0_2, .bool a0_3, .bool a0_4]] w fun e w' => e = .returned (.bool r) ∧ Below w.heap.size w w' := by
  have hu27 := Tryd.underlying27
  have HB := Aside0.mk (Below.refl w.heap.size w)
  have H : (some a0_3) = some r := h
  clear h
  obtain rfl := Option.some.inj H
  go_enter Tryd.func41, Tryd.ntmps41
  go_wp2_with (first | ((with_reducible refine gate_dst (N := 1) rfl ?_); refine box_event ?hg (N := 1) ?hd (cs := #[.bool a0_0, .bool a0_1, .bool a0_2, .bool a0_3, .bool a0_4]) (t := 27) ?hr ?_; (case hd => rfl); (case hg => rfl); (case hr => first | (go_simp; done) | (go_simp; rfl)); intro gb134 hg w2 hbox hb; have n0_ := Aside0.mk (below_step (by repeat (first | (with_reducible first | exact HB.out | apply bX_ | apply bW_ | apply bY_) | exact HB.out)) hb); have n1_ := Aside0.mk (hbox); have n2_ := Aside0.mk ((by rw [hg]; exact (below_size (by repeat (first | (with_reducible first | exact HB.out | apply bX_ | apply bW_ | apply bY_) | exact HB.out))) : w.heap.size ≤ gb134)); have n3_ := Aside0.mk ((by rw [hg]; exact (below_size (by repeat (first | (with_reducible first | exact HB.out | apply bX_ | apply bW_ | apply bY_) | exact HB.out))) : w.heap.size ≤ gb134)); clear HB; have HB := n0_; have BK134 := n1_; have GW134 := n2_; have GE134 := n3_; clear n0_ n1_ n2_ n3_; clear hb hbox hg; have hcz3_0 : w2.cell? ⟨gb134, 0, none⟩ = some (.bool a0_0) := (bC_ BK134.out 0).trans rfl; have hcz3_1 : w2.cell? ⟨gb134, 1, none⟩ = some (.bool a0_1) := (bC_ BK134.out 1).trans rfl; have hcz3_2 : w2.cell? ⟨gb134, 2, none⟩ = some (.bool a0_2) := (bC_ BK134.out 2).trans rfl; have hcz3_3 : w2.cell? ⟨gb134, 3, none⟩ = some (.bool a0_3) := (bC_ BK134.out 3).trans rfl; have hcz3_4 : w2.cell? ⟨gb134, 4, none⟩ = some (.bool a0_4) := (bC_ BK134.out 4).trans rfl; have hfz3_0 := bF_ BK134.out 0; have hfz3_1 := bF_ BK134.out 1; have hfz3_2 := bF_ BK134.out 2; have hfz3_3 := bF_ BK134.out 3; have hfz3_4 := bF_ BK134.out 4))
  go_ret
  exact ⟨by first | rfl | (simp [errW_none, errW_some] <;> rfl) | (simp [*, errW_none, errW_some] <;> rfl), by repeat (first | (with_reducible first | exact HB.out | apply bX_ | apply bW_ | apply bY_ | refine bS_ ?_ GE134.out) | exact HB.out)⟩
def cpu_holds_2.f (a0_0 : Bool) (a0_1 : Bool) (a0_2 : Bool) (a0_3 : Bool) (a0_4 : Bool) : Option (Bool) := some a0_0
set_option maxHeartbeats 8000000 in
set_option maxRecDepth 100000 in
theorem cpu_holds_2.calls (a0_0 : Bool) (a0_1 : Bool) (a0_2 : Bool) (a0_3 : Bool) (a0_4 : Bool) (r : Bool) (w : World) (h : cpu_holds_2.f a0_0 a0_1 a0_2 a0_3 a0_4 = some r) :
    Calls Tryd.prog 42 #[.agg #[.bool a0_0, .bool a0_1, .bool a0_2, .bool a0_3, .bool a0_4]] w fun e w' => e = .returned (.bool r) ∧ Below w.heap.size w w' := by
  have hu27 := Tryd.underlying27
  have HB := Aside0.mk (Below.refl w.heap.size w)
  have H : (some a0_0) = some r := h
  clear h
  obtain rfl := Option.some.inj H
  go_enter Tryd.func42, Tryd.ntmps42
  go_wp2_with (first | ((with_reducible refine gate_dst (N := 1) rfl ?_); refine box_event ?hg (N := 1) ?hd (cs := #[.bool a0_0, .bool a0_1, .bool a0_2, .bool a0_3, .bool a0_4]) (t := 27) ?hr ?_; (case hd => rfl); (case hg => rfl); (case hr => first | (go_simp; done) | (go_simp; rfl)); intro gb135 hg w2 hbox hb; have n0_ := Aside0.mk (below_step (by repeat (first | (with_reducible first | exact HB.out | apply bX_ | apply bW_ | apply bY_) | exact HB.out)) hb); have n1_ := Aside0.mk (hbox); have n2_ := Aside0.mk ((by rw [hg]; exact (below_size (by repeat (first | (with_reducible first | exact HB.out | apply bX_ | apply bW_ | apply bY_) | exact HB.out))) : w.heap.size ≤ gb135)); have n3_ := Aside0.mk ((by rw [hg]; exact (below_size (by repeat (first | (with_reducible first | exact HB.out | apply bX_ | apply bW_ | apply bY_) | exact HB.out))) : w.heap.size ≤ gb135)); clear HB; have HB := n0_; have BK135 := n1_; have GW135 := n2_; have GE135 := n3_; clear n0_ n1_ n2_ n3_; clear hb hbox hg; have hcz3_0 : w2.cell? ⟨gb135, 0, none⟩ = some (.bool a0_0) := (bC_ BK135.out 0).trans rfl; have hcz3_1 : w2.cell? ⟨gb135, 1, none⟩ = some (.bool a0_1) := (bC_ BK135.out 1).trans rfl; have hcz3_2 : w2.cell? ⟨gb135, 2, none⟩ = some (.bool a0_2) := (bC_ BK135.out 2).trans rfl; have hcz3_3 : w2.cell? ⟨gb135, 3, none⟩ = some (.bool a0_3) := (bC_ BK135.out 3).trans rfl; have hcz3_4 : w2.cell? ⟨gb135, 4, none⟩ = some (.bool a0_4) := (bC_ BK135.out 4).trans rfl; have hfz3_0 := bF_ BK135.out 0; have hfz3_1 := bF_ BK135.out 1; have hfz3_2 := bF_ BK135.out 2; have hfz3_3 := bF_ BK135.out 3; have hfz3_4 := bF_ BK135.out 4))
  go_ret
  exact ⟨by first | rfl | (simp [errW_none, errW_some] <;> rfl) | (simp [*, errW_none, errW_some] <;> rfl), by repeat (first | (with_reducible first | exact HB.out | apply bX_ | apply bW_ | apply bY_ | refine bS_ ?_ GE135.out) | exact HB.out)⟩
def cpu_holds_3.f (a0_0 : Bool) (a0_1 : Bool) (a0_2 : Bool) (a0_3 : Bool) (a0_4 : Bool) : Option (Bool) := some a0_1
set_option maxHeartbeats 8000000 in
set_option maxRecDepth 100000 in
theorem cpu_holds_3.calls (a0_0 : Bool) (a0_1 : Bool) (a0_2 : Bool) (a0_3 : Bool) (a0_4 : Bool) (r : Bool) (w : World) (h : cpu_holds_3.f a0_0 a0_1 a0_2 a0_3 a0_4 = some r) :
    Calls Tryd.prog 43 #[.agg #[.bool a0_0, .bool a0_1, .bool a0_2, .bool a0_3, .bool a0_4]] w fun e w' => e = .returned (.bool r) ∧ Below w.heap.size w w' := by
  have hu27 := Tryd.underlying27
  have HB := Aside0.mk (Below.refl w.heap.size w)
  have H : (some a0_1) = some r := h
  clear h
  obtain rfl := Option.some.inj H
  go_enter Tryd.func43, Tryd.ntmps43
  go_wp2_with (first | ((with_reducible refine gate_dst (N := 1) rfl ?_); refine box_event ?hg (N := 1) ?hd (cs := #[.bool a0_0, .bool a0_1, .bool a0_2, .bool a0_3, .bool a0_4]) (t := 27) ?hr ?_; (case hd => rfl); (case hg => rfl); (case hr => first | (go_simp; done) | (go_simp; rfl)); intro gb136 hg w2 hbox hb; have n0_ := Aside0.mk (below_step (by repeat (first | (with_reducible first | exact HB.out | apply bX_ | apply bW_ | apply bY_) | exact HB.out)) hb); have n1_ := Aside0.mk (hbox); have n2_ := Aside0.mk ((by rw [hg]; exact (below_size (by repeat (first | (with_reducible first | exact HB.out | apply bX_ | apply bW_ | apply bY_) | exact HB.out))) : w.heap.size ≤ gb136)); have n3_ := Aside0.mk ((by rw [hg]; exact (below_size (by repeat (first | (with_reducible first | exact HB.out | apply bX_ | apply bW_ | apply bY_) | exact HB.out))) : w.heap.size ≤ gb136)); clear HB; have HB := n0_; have BK136 := n1_; have GW136 := n2_; have GE136 := n3_; clear n0_ n1_ n2_ n3_; clear hb hbox hg; have hcz3_0 : w2.cell? ⟨gb136, 0, none⟩ = some (.bool a0_0) := (bC_ BK136.out 0).trans rfl; have hcz3_1 : w2.cell? ⟨gb136, 1, none⟩ = some (.bool a0_1) := (bC_ BK136.out 1).trans rfl; have hcz3_2 : w2.cell? ⟨gb136, 2, none⟩ = some (.bool a0_2) := (bC_ BK136.out 2).trans rfl; have hcz3_3 : w2.cell? ⟨gb136, 3, none⟩ = some (.bool a0_3) := (bC_ BK136.out 3).trans rfl; have hcz3_4 : w2.cell? ⟨gb136, 4, none⟩ = some (.bool a0_4) := (bC_ BK136.out 4).trans rfl; have hfz3_0 := bF_ BK136.out 0; have hfz3_1 := bF_ BK136.out 1; have hfz3_2 := bF_ BK136.out 2; have hfz3_3 := bF_ BK136.out 3; have hfz3_4 := bF_ BK136.out 4))
  go_ret
  exact ⟨by first | rfl | (simp [errW_none, errW_some] <;> rfl) | (simp [*, errW_none, errW_some] <;> rfl), by repeat (first | (with_reducible first | exact HB.out | apply bX_ | apply bW_ | apply bY_ | refine bS_ ?_ GE136.out) | exact HB.out)⟩
def cpu_holds_4.f (a0_0 : Bool) (a0_1 : Bool) (a0_2 : Bool) (a0_3 : Bool) (a0_4 : Bool) : Option (Bool) := if a0_0 = true then (some true) else (some a0_1)
set_option maxHeartbeats 8000000 in
set_option maxRecDepth 100000 in
theorem cpu_holds_4.calls (a0_0 : Bool) (a0_1 : Bool) (a0_2 : Bool) (a0_3 : Bool) (a0_4 : Bool) (r : Bool) (w : World) (h : cpu_holds_4.f a0_0 a0_1 a0_2 a0_3 a0_4 = some r) :
    Calls Tryd.prog 44 #[.agg #[.bool a0_0, .bool a0_1, .bool a0_2, .bool a0_3, .bool a0_4]] w fun e w' => e = .returned (.bool r) ∧ Below w.heap.size w w' := by
  have hu27 := Tryd.underlying27
  have HB := Aside0.mk (Below.refl w.heap.size w)
  have H : (if a0_0 = true then (some true) else (some a0_1)) = some r := h
  clear h
  by_cases c2 : a0_0 = true
  · subst c2
    have H1 : (some true) = some r := by rw [if_pos rfl] at H; exact H
    clear H
    have H := H1
    clear H1
    obtain rfl := Option.some.inj H
    go_enter Tryd.func44, Tryd.ntmps44
    go_wp2_with (first | ((with_reducible refine gate_dst (N := 1) rfl ?_); refine box_event ?hg (N := 1) ?hd (cs := #[.bool true, .bool a0_1, .bool a0_2, .bool a0_3, .bool a0_4]) (t := 27) ?hr ?_; (case hd => rfl); (case hg => rfl); (case hr => first | (go_simp; done) | (go_simp; rfl)); intro gb137 hg w3 hbox hb; have n0_ := Aside0.mk (below_step (by repeat (first | (with_reducible first | exact HB.out | apply bX_ | apply bW_ | apply bY_) | exact HB.out)) hb); have n1_ := Aside0.mk (hbox); have n2_ := Aside0.mk ((by rw [hg]; exact (below_size (by repeat (first | (with_reducible first | exact HB.out | apply bX_ | apply bW_ | apply bY_) | exact HB.out))) : w.heap.size ≤ gb137)); have n3_ := Aside0.mk ((by rw [hg]; exact (below_size (by repeat (first | (with_reducible first | exact HB.out | apply bX_ | apply bW_ | apply bY_) | exact HB.out))) : w.heap.size ≤ gb137)); clear HB; have HB := n0_; have BK137 := n1_; have GW137 := n2_; have GE137 := n3_; clear n0_ n1_ n2_ n3_; clear hb hbox hg; have hcz4_0 : w3.cell? ⟨gb137, 0, none⟩ = some (.bool true) := (bC_ BK137.out 0).trans rfl; have hcz4_1 : w3.cell? ⟨gb137, 1, none⟩ = some (.bool a0_1) := (bC_ BK137.out 1).trans rfl; have hcz4_2 : w3.cell? ⟨gb137, 2, none⟩ = some (.bool a0_2) := (bC_ BK137.out 2).trans rfl; have hcz4_3 : w3.cell? ⟨gb137, 3, none⟩ = some (.bool a0_3) := (bC_ BK137.out 3).trans rfl; have hcz4_4 : w3.cell? ⟨gb137, 4, none⟩ = some (.bool a0_4) := (bC_ BK137.out 4).trans rfl; have hfz4_0 := bF_ BK137.out 0; have hfz4_1 := bF_ BK137.out 1; have hfz4_2 := bF_ BK137.out 2; have hfz4_3 := bF_ BK137.out 3; have hfz4_4 := bF_ BK137.out 4))
    go_ret
    exact ⟨by first | rfl | (simp [errW_none, errW_some] <;> rfl) | (simp [*, errW_none, errW_some] <;> rfl), by repeat (first | (with_reducible first | exact HB.out | apply bX_ | apply bW_ | apply bY_ | refine bS_ ?_ GE137.out) | exact HB.out)⟩
  · replace c2 := Bool.eq_false_iff.mpr c2
    subst c2
    have H1 : (some a0_1) = some r := by rw [if_neg (show ¬ (false = true) by decide)] at H; exact H
    clear H
    have H := H1
    clear H1
    obtain rfl := Option.some.inj H
    go_enter Tryd.func44, Tryd.ntmps44
    go_wp2_with (first | ((with_reducible refine gate_dst (N := 1) rfl ?_); refine box_event ?hg (N := 1) ?hd (cs := #[.bool false, .bool a0_1, .bool a0_2, .bool a0_3, .bool a0_4]) (t := 27) ?hr ?_; (case hd => rfl); (case hg => rfl); (case hr => first | (go_simp; done) | (go_simp; rfl)); intro gb137 hg w5 hbox hb; have n0_ := Aside0.mk (below_step (by repeat (first | (with_reducible first | exact HB.out | apply bX_ | apply bW_ | apply bY_) | exact HB.out)) hb); have n1_ := Aside0.mk (hbox); have n2_ := Aside0.mk ((by rw [hg]; exact (below_size (by repeat (first | (with_reducible first | exact HB.out | apply bX_ | apply bW_ | apply bY_) | exact HB.out))) : w.heap.size ≤ gb137)); have n3_ := Aside0.mk ((by rw [hg]; exact (below_size (by repeat (first | (with_reducible first | exact HB.out | apply bX_ | apply bW_ | apply bY_) | exact HB.out))) : w.heap.size ≤ gb137)); clear HB; have HB := n0_; have BK137 := n1_; have GW137 := n2_; have GE137 := n3_; clear n0_ n1_ n2_ n3_; clear hb hbox hg; have hcz6_0 : w5.cell? ⟨gb137, 0, none⟩ = some (.bool false) := (bC_ BK137.out 0).trans rfl; have hcz6_1 : w5.cell? ⟨gb137, 1, none⟩ = some (.bool a0_1) := (bC_ BK137.out 1).trans rfl; have hcz6_2 : w5.cell? ⟨gb137, 2, none⟩ = some (.bool a0_2) := (bC_ BK137.out 2).trans rfl; have hcz6_3 : w5.cell? ⟨gb137, 3, none⟩ = some (.bool a0_3) := (bC_ BK137.out 3).trans rfl; have hcz6_4 : w5.cell? ⟨gb137, 4, none⟩ = some (.bool a0_4) := (bC_ BK137.out 4).trans rfl; have hfz6_0 := bF_ BK137.out 0; have hfz6_1 := bF_ BK137.out 1; have hfz6_2 := bF_ BK137.out 2; have hfz6_3 := bF_ BK137.out 3; have hfz6_4 := bF_ BK137.out 4))
    go_ret
    exact ⟨by first | rfl | (simp [errW_none, errW_some] <;> rfl) | (simp [*, errW_none, errW_some] <;> rfl), by repeat (first | (with_reducible first | exact HB.out | apply bX_ | apply bW_ | apply bY_ | refine bS_ ?_ GE137.out) | exact HB.out)⟩
def cpu_holds_5.f (a0_0 : Bool) (a0_1 : Bool) (a0_2 : Bool) (a0_3 : Bool) (a0_4 : Bool) : Option (Bool) := some a0_2
set_option maxHeartbeats 8000000 in
set_option maxRecDepth 100000 in
theorem cpu_holds_5.calls (a0_0 : Bool) (a0_1 : Bool) (a0_2 : Bool) (a0_3 : Bool) (a0_4 : Bool) (r : Bool) (w : World) (h : cpu_holds_5.f a0_0 a0_1 a0_2 a0_3 a0_4 = some r) :
    Calls Tryd.prog 45 #[.agg #[.bool a0_0, .bool a0_1, .bool a0_2, .bool a0_3, .bool a0_4]] w fun e w' => e = .returned (.bool r) ∧ Below w.heap.size w w' := by
  have hu27 := Tryd.underlying27
  have HB := Aside0.mk (Below.refl w.heap.size w)
  have H : (some a0_2) = some r := h
  clear h
  obtain rfl := Option.some.inj H
  go_enter Tryd.func45, Tryd.ntmps45
  go_wp2_with (first | ((with_reducible refine gate_dst (N := 1) rfl ?_); refine box_event ?hg (N := 1) ?hd (cs := #[.bool a0_0, .bool a0_1, .bool a0_2, .bool a0_3, .bool a0_4]) (t := 27) ?hr ?_; (case hd => rfl); (case hg => rfl); (case hr => first | (go_simp; done) | (go_simp; rfl)); intro gb138 hg w2 hbox hb; have n0_ := Aside0.mk (below_step (by repeat (first | (with_reducible first | exact HB.out | apply bX_ | apply bW_ | apply bY_) | exact HB.out)) hb); have n1_ := Aside0.mk (hbox); have n2_ := Aside0.mk ((by rw [hg]; exact (below_size (by repeat (first | (with_reducible first | exact HB.out | apply bX_ | apply bW_ | apply bY_) | exact HB.out))) : w.heap.size ≤ gb138)); have n3_ := Aside0.mk ((by rw [hg]; exact (below_size (by repeat (first | (with_reducible first | exact HB.out | apply bX_ | apply bW_ | apply bY_) | exact HB.out))) : w.heap.size ≤ gb138)); clear HB; have HB := n0_; have BK138 := n1_; have GW138 := n2_; have GE138 := n3_; clear n0_ n1_ n2_ n3_; clear hb hbox hg; have hcz3_0 : w2.cell? ⟨gb138, 0, none⟩ = some (.bool a0_0) := (bC_ BK138.out 0).trans rfl; have hcz3_1 : w2.cell? ⟨gb138, 1, none⟩ = some (.bool a0_1) := (bC_ BK138.out 1).trans rfl; have hcz3_2 : w2.cell? ⟨gb138, 2, none⟩ = some (.bool a0_2) := (bC_ BK138.out 2).trans rfl; have hcz3_3 : w2.cell? ⟨gb138, 3, none⟩ = some (.bool a0_3) := (bC_ BK138.out 3).trans rfl; have hcz3_4 : w2.cell? ⟨gb138, 4, none⟩ = some (.bool a0_4) := (bC_ BK138.out 4).trans rfl; have hfz3_0 := bF_ BK138.out 0; have hfz3_1 := bF_ BK138.out 1; have hfz3_2 := bF_ BK138.out 2; have hfz3_3 := bF_ BK138.out 3; have hfz3_4 := bF_ BK138.out 4))
  go_ret
  exact ⟨by first | rfl | (simp [errW_none, errW_some] <;> rfl) | (simp [*, errW_none, errW_some] <;> rfl), by repeat (first | (with_reducible first | exact HB.out | apply bX_ | apply bW_ | apply bY_ | refine bS_ ?_ GE138.out) | exact HB.out)⟩
def cpu_holds_6.f (a0_0 : Bool) (a0_1 : Bool) (a0_2 : Bool) (a0_3 : Bool) (a0_4 : Bool) : Option (Bool) := some a0_4
set_option maxHeartbeats 8000000 in
set_option maxRecDepth 100000 in
theorem cpu_holds_6.calls (a0_0 : Bool) (a0_1 : Bool) (a0_2 : Bool) (a0_3 : Bool) (a0_4 : Bool) (r : Bool) (w : World) (h : cpu_holds_6.f a0_0 a0_1 a0_2 a0_3 a0_4 = some r) :
    Calls Tryd.prog 46 #[.agg #[.bool a0_0, .bool a0_1, .bool a0_2, .bool a0_3, .bool a0_4]] w fun e w' => e = .returned (.bool r) ∧ Below w.heap.size w w' := by
  have hu27 := Tryd.underlying27
  have HB := Aside0.mk (Below.refl w.heap.size w)
  have H : (some a0_4) = some r := h
  clear h
  obtain rfl := Option.some.inj H
  go_enter Tryd.func46, Tryd.ntmps46
  go_wp2_with (first | ((with_reducible refine gate_dst (N := 1) rfl ?_); refine box_event ?hg (N := 1) ?hd (cs := #[.bool a0_0, .bool a0_1, .bool a0_2, .bool a0_3, .bool a0_4]) (t := 27) ?hr ?_; (case hd => rfl); (case hg => rfl); (case hr => first | (go_simp; done) | (go_simp; rfl)); intro gb139 hg w2 hbox hb; have n0_ := Aside0.mk (below_step (by repeat (first | (with_reducible first | exact HB.out | apply bX_ | apply bW_ | apply bY_) | exact HB.out)) hb); have n1_ := Aside0.mk (hbox); have n2_ := Aside0.mk ((by rw [hg]; exact (below_size (by repeat (first | (with_reducible first | exact HB.out | apply bX_ | apply bW_ | apply bY_) | exact HB.out))) : w.heap.size ≤ gb139)); have n3_ := Aside0.mk ((by rw [hg]; exact (below_size (by repeat (first | (with_reducible first | exact HB.out | apply bX_ | apply bW_ | apply bY_) | exact HB.out))) : w.heap.size ≤ gb139)); clear HB; have HB := n0_; have BK139 := n1_; have GW139 := n2_; have GE139 := n3_; clear n0_ n1_ n2_ n3_; clear hb hbox hg; have hcz3_0 : w2.cell? ⟨gb139, 0, none⟩ = some (.bool a0_0) := (bC_ BK139.out 0).trans rfl; have hcz3_1 : w2.cell? ⟨gb139, 1, none⟩ = some (.bool a0_1) := (bC_ BK139.out 1).trans rfl; have hcz3_2 : w2.cell? ⟨gb139, 2, none⟩ = some (.bool a0_2) := (bC_ BK139.out 2).trans rfl; have hcz3_3 : w2.cell? ⟨gb139, 3, none⟩ = some (.bool a0_3) := (bC_ BK139.out 3).trans rfl; have hcz3_4 : w2.cell? ⟨gb139, 4, none⟩ = some (.bool a0_4) := (bC_ BK139.out 4).trans rfl; have hfz3_0 := bF_ BK139.out 0; have hfz3_1 := bF_ BK139.out 1; have hfz3_2 := bF_ BK139.out 2; have hfz3_3 := bF_ BK139.out 3; have hfz3_4 := bF_ BK139.out 4))
  go_ret
  exact ⟨by first | rfl | (simp [errW_none, errW_some] <;> rfl) | (simp [*, errW_none, errW_some] <;> rfl), by repeat (first | (with_reducible first | exact HB.out | apply bX_ | apply bW_ | apply bY_ | refine bS_ ?_ GE139.out) | exact HB.out)⟩
def cpu_holds_7.f (a0_0 : Bool) (a0_1 : Bool) (a0_2 : Bool) (a0_3 : Bool) (a0_4 : Bool) : Option (Bool) := some (a0_2 != a0_3)
set_option maxHeartbeats 8000000 in
set_option maxRecDepth 100000 in
theorem cpu_holds_7.calls (a0_0 : Bool) (a0_1 : Bool) (a0_2 : Bool) (a0_3 : Bool) (a0_4 : Bool) (r : Bool) (w : World) (h : cpu_holds_7.f a0_0 a0_1 a0_2 a0_3 a0_4 = some r) :
    Calls Tryd.prog 47 #[.agg #[.bool a0_0, .bool a0_1, .bool a0_2, .bool a0_3, .bool a0_4]] w fun e w' => e = .returned (.bool r) ∧ Below w.heap.size w w' := by
  have hu27 := Tryd.underlying27
  have HB := Aside0.mk (Below.refl w.heap.size w)
  have H : (some (a0_2 != a0_3)) = some r := h
  clear h
  obtain rfl := Option.some.inj H
  go_enter Tryd.func47, Tryd.ntmps47
  go_wp2_with (first | ((with_reducible refine gate_dst (N := 1) rfl ?_); refine box_event ?hg (N := 1) ?hd (cs := #[.bool a0_0, .bool a0_1, .bool a0_2, .bool a0_3, .bool a0_4]) (t := 27) ?hr ?_; (case hd => rfl); (case hg => rfl); (case hr => first | (go_simp; done) | (go_simp; rfl)); intro gb140 hg w2 hbox hb; have n0_ := Aside0.mk (below_step (by repeat (first | (with_reducible first | exact HB.out | apply bX_ | apply bW_ | apply bY_) | exact HB.out)) hb); have n1_ := Aside0.mk (hbox); have n2_ := Aside0.mk ((by rw [hg]; exact (below_size (by repeat (first | (with_reducible first | exact HB.out | apply bX_ | apply bW_ | apply bY_) | exact HB.out))) : w.heap.size ≤ gb140)); have n3_ := Aside0.mk ((by rw [hg]; exact (below_size (by repeat (first | (with_reducible first | exact HB.out | apply bX_ | apply bW_ | apply bY_) | exact HB.out))) : w.heap.size ≤ gb140)); clear HB; have HB := n0_; have BK140 := n1_; have GW140 := n2_; have GE140 := n3_; clear n0_ n1_ n2_ n3_; clear hb hbox hg; have hcz3_0 : w2.cell? ⟨gb140, 0, none⟩ = some (.bool a0_0) := (bC_ BK140.out 0).trans rfl; have hcz3_1 : w2.cell? ⟨gb140, 1, none⟩ = some (.bool a0_1) := (bC_ BK140.out 1).trans rfl; have hcz3_2 : w2.cell? ⟨gb140, 2, none⟩ = some (.bool a0_2) := (bC_ BK140.out 2).trans rfl; have hcz3_3 : w2.cell? ⟨gb140, 3, none⟩ = some (.bool a0_3) := (bC_ BK140.out 3).trans rfl; have hcz3_4 : w2.cell? ⟨gb140, 4, none⟩ = some (.bool a0_4) := (bC_ BK140.out 4).trans rfl; have hfz3_0 := bF_ BK140.out 0; have hfz3_1 := bF_ BK140.out 1; have hfz3_2 := bF_ BK140.out 2; have hfz3_3 := bF_ BK140.out 3; have hfz3_4 := bF_ BK140.out 4))
  go_ret
  exact ⟨by first | rfl | (simp [errW_none, errW_some] <;> rfl) | (simp [*, errW_none, errW_some] <;> rfl), by repeat (first | (with_reducible first | exact HB.out | apply bX_ | apply bW_ | apply bY_ | refine bS_ ?_ GE140.out) | exact HB.out)⟩
def cpu_holds_8.f (a0_0 : Bool) (a0_1 : Bool) (a0_2 : Bool) (a0_3 : Bool) (a0_4 : Bool) : Option (Bool) := if a0_1 = true then (some true) else (some (a0_2 != a0_3))
set_option maxHeartbeats 8000000 in
set_option maxRecDepth 100000 in
theorem cpu_holds_8.calls (a0_0 : Bool) (a0_1 : Bool) (a0_2 : Bool) (a0_3 : Bool) (a0_4 : Bool) (r : Bool) (w : World) (h : cpu_holds_8.f a0_0 a0_1 a0_2 a0_3 a0_4 = some r) :
    Calls Tryd.prog 48 #[.agg #[.bool a0_0, .bool a0_1, .bool a0_2, .bool a0_3, .bool a0_4]] w fun e w' => e = .returned (.bool r) ∧ Below w.heap.size w w' := by
  have hu27 := Tryd.underlying27
  have HB := Aside0.mk (Below.refl w.heap.size w)
  have H : (if a0_1 = true then (some true) else (some (a0_2 != a0_3))) = some r := h
  clear h
  by_cases c2 : a0_1 = true
  · subst c2
    have H1 : (some true) = some r := by rw [if_pos rfl] at H; exact H
    clear H
    have H := H1
    clear H1
    obtain rfl := Option.some.inj H
    go_enter Tryd.func48, Tryd.ntmps48
    go_wp2_with (first | ((with_reducible refine gate_dst (N := 1) rfl ?_); refine box_event ?hg (N := 1) ?hd (cs := #[.bool a0_0, .bool true, .bool a0_2, .bool a0_3, .bool a0_4]) (t := 27) ?hr ?_; (case hd => rfl); (case hg => rfl); (case hr => first | (go_simp; done) | (go_simp; rfl)); intro gb141 hg w3 hbox hb; have n0_ := Aside0.mk (below_step (by repeat (first | (with_reducible first | exact HB.out | apply bX_ | apply bW_ | apply bY_) | exact HB.out)) hb); have n1_ := Aside0.mk (hbox); have n2_ := Aside0.mk ((by rw [hg]; exact (below_size (by repeat (first | (with_reducible first | exact HB.out | apply bX_ | apply bW_ | apply bY_) | exact HB.out))) : w.heap.size ≤ gb141)); have n3_ := Aside0.mk ((by rw [hg]; exact (below_size (by repeat (first | (with_reducible first | exact HB.out | apply bX_ | apply bW_ | apply bY_) | exact HB.out))) : w.heap.size ≤ gb141)); clear HB; have HB := n0_; have BK141 := n1_; have GW141 := n2_; have GE141 := n3_; clear n0_ n1_ n2_ n3_; clear hb hbox hg; have hcz4_0 : w3.cell? ⟨gb141, 0, none⟩ = some (.bool a0_0) := (bC_ BK141.out 0).trans rfl; have hcz4_1 : w3.cell? ⟨gb141, 1, none⟩ = some (.bool true) := (bC_ BK141.out 1).trans rfl; have hcz4_2 : w3.cell? ⟨gb141, 2, none⟩ = some (.bool a0_2) := (bC_ BK141.out 2).trans rfl; have hcz4_3 : w3.cell? ⟨gb141, 3, none⟩ = some (.bool a0_3) := (bC_ BK141.out 3).trans rfl; have hcz4_4 : w3.cell? ⟨gb141, 4, none⟩ = some (.bool a0_4) := (bC_ BK141.out 4).trans rfl; have hfz4_0 := bF_ BK141.out 0; have hfz4_1 := bF_ BK141.out 1; have hfz4_2 := bF_ BK141.out 2; have hfz4_3 := bF_ BK141.out 3; have hfz4_4 := bF_ BK141.out 4))
    go_ret
    exact ⟨by first | rfl | (simp [errW_none, errW_some] <;> rfl) | (simp [*, errW_none, errW_some] <;> rfl), by repeat (first | (with_reducible first | exact HB.out | apply bX_ | apply bW_ | apply bY_ | refine bS_ ?_ GE141.out) | exact HB.out)⟩
  · replace c2 := Bool.eq_false_iff.mpr c2
    subst c2
    have H1 : (some (a0_2 != a0_3)) = some r := by rw [if_neg (show ¬ (false = true) by decide)] at H; exact H
    clear H
    have H := H1
    clear H1
    obtain rfl := Option.some.inj H
    go_enter Tryd.func48, Tryd.ntmps48
    go_wp2_with (first | ((with_reducible refine gate_dst (N := 1) rfl ?_); refine box_event ?hg (N := 1) ?hd (cs := #[.bool a0_0, .bool false, .bool a0_2, .bool a0_3, .bool a0_4]) (t := 27) ?hr ?_; (case hd => rfl); (case hg => rfl); (case hr => first | (go_simp; done) | (go_simp; rfl)); intro gb141 hg w5 hbox hb; have n0_ := Aside0.mk (below_step (by repeat (first | (with_reducible first | exact HB.out | apply bX_ | apply bW_ | apply bY_) | exact HB.out)) hb); have n1_ := Aside0.mk (hbox); have n2_ := Aside0.mk ((by rw [hg]; exact (below_size (by repeat (first | (with_reducible first | exact HB.out | apply bX_ | apply bW_ | apply bY_) | exact HB.out))) : w.heap.size ≤ gb141)); have n3_ := Aside0.mk ((by rw [hg]; exact (below_size (by repeat (first | (with_reducible first | exact HB.out | apply bX_ | apply bW_ | apply bY_) | exact HB.out))) : w.heap.size ≤ gb141)); clear HB; have HB := n0_; have BK141 := n1_; have GW141 := n2_; have GE141 := n3_; clear n0_ n1_ n2_ n3_; clear hb hbox hg; have hcz6_0 : w5.cell? ⟨gb141, 0, none⟩ = some (.bool a0_0) := (bC_ BK141.out 0).trans rfl; have hcz6_1 : w5.cell? ⟨gb141, 1, none⟩ = some (.bool false) := (bC_ BK141.out 1).trans rfl; have hcz6_2 : w5.cell? ⟨gb141, 2, none⟩ = some (.bool a0_2) := (bC_ BK141.out 2).trans rfl; have hcz6_3 : w5.cell? ⟨gb141, 3, none⟩ = some (.bool a0_3) := (bC_ BK141.out 3).trans rfl; have hcz6_4 : w5.cell? ⟨gb141, 4, none⟩ = some (.bool a0_4) := (bC_ BK141.out 4).trans rfl; have hfz6_0 := bF_ BK141.out 0; have hfz6_1 := bF_ BK141.out 1; have hfz6_2 := bF_ BK141.out 2; have hfz6_3 := bF_ BK141.out 3; have hfz6_4 := bF_ BK141.out 4))
    go_ret
    exact ⟨by first | rfl | (simp [errW_none, errW_some] <;> rfl) | (simp [*, errW_none, errW_some] <;> rfl), by repeat (first | (with_reducible first | exact HB.out | apply bX_ | apply bW_ | apply bY_ | refine bS_ ?_ GE141.out) | exact HB.out)⟩
end Go.Proofs.YtpmclnlgipphmaaDoor.B
