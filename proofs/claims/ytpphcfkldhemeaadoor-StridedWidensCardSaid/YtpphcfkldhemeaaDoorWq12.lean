/- Sets in memory: a box of three numbers, read and written; math/bits.Add64. The values of a set, one by one, and listed. Sums of sets: the small closures. Sums of sets: what is done where not both have one value. -/
import Derived.Test.YtpphcfkldhemeaaDoorWq10
import Derived.Test.YtpphcfkldhemeaaDoorWq11
import Derived.Laws.Externs
import Derived.Laws.Rows
import Derived.WalkMore
import Derived.Shelf.Abstract
namespace Go.Proofs.YtpphcfkldhemeaaDoor.B
open Go.RowKit Go.Proofs.YtpphcfkldhemeaaDoorW.PrintWords Go.Proofs.YtpphcfkldhemeaaDoorW.PrintMore Go.RF
set_option linter.unusedVariables false
set_option linter.unusedSimpArgs false
theorem cell_of_block {W : World} {b : Nat} {v : Value} {t : Nat} (h : W.heap[b]? = some (.cells #[v] t (0, 0))) : W.cell? ⟨b, 0, none⟩ = some v ∧ W.frozen? ⟨b, 0, none⟩ = false := by
  unfold World.cell? World.frozen?
  simp [h]
theorem blk_store {W : World} {b : Nat} {v : Value} {t : Nat} (h : W.heap[b]? = some (.cells #[v] t (0, 0))) (u : Value) : (W.setCell ⟨b, 0, none⟩ u).heap[b]? = some (.cells #[u] t (0, 0)) := by
  unfold World.setCell
  simp [Array.getElem?_modify, h]
theorem blk_set1 {W : World} {b : Nat} {cs : Array Value} {t : Nat} (h : W.heap[b]? = some (.cells cs t (0, 0))) (i : Nat) (u : Value) : (W.setCell ⟨b, i, none⟩ u).heap[b]? = some (.cells (cs.setIfInBounds i u) t (0, 0)) := by
  unfold World.setCell
  simp [Array.getElem?_modify, h]
theorem run_bin {P : Program} {o : Oper} {ρ : Operand → Value} {op : BinOp} {t yt : TypeId} {x y : Operand} {a b v : Value} {w : World} (ho : o.op = .binOp op t x y yt) (hx : ρ x = a) (hy : ρ y = b)
    (hg : (eqGuard op t x y a b).run P w = .ok () w) (h : (binOp op t a b).run P w = .ok v w) : (execOp ρ o).run P w = .ok (.value v) w := by
  unfold execOp
  simp only [ho, hx, hy, Sem.run_bind, hg, h, Result.andThen_ok, Sem.run_pure]
theorem run_load {P : Program} {o : Oper} {ρ : Operand → Value} {t : TypeId} {x : Operand} {a v : Value} {w : World} (ho : o.op = .load t x) (hx : ρ x = a) (h : (Instr.loadAt t a).run P w = .ok v w) : (execOp ρ o).run P w = .ok (.value v) w := by
  unfold execOp
  simp only [ho, hx, Sem.run_bind, h, Result.andThen_ok, Sem.run_pure]
theorem rows3 {W : World} {b : Nat} {v0 v1 v2 : Value} {t : Nat} (h : W.heap[b]? = some (.cells #[v0, v1, v2] t (0, 0))) :
    (W.cell? ⟨b, 0, none⟩ = some v0 ∧ W.cell? ⟨b, 1, none⟩ = some v1 ∧ W.cell? ⟨b, 2, none⟩ = some v2) ∧ (W.frozen? ⟨b, 0, none⟩ = false ∧ W.frozen? ⟨b, 1, none⟩ = false ∧ W.frozen? ⟨b, 2, none⟩ = false) :=
  ⟨⟨by rw [bC_ h]; rfl, by rw [bC_ h]; rfl, by rw [bC_ h]; rfl⟩, bF_ h 0, bF_ h 1, bF_ h 2⟩
theorem set3 {W : World} {b : Nat} {v0 v1 v2 : Value} {t : Nat} (h : W.heap[b]? = some (.cells #[v0, v1, v2] t (0, 0))) (u0 u1 u2 : Value) :
    (((W.setCell ⟨b, 0, none⟩ u0).setCell ⟨b, 1, none⟩ u1).setCell ⟨b, 2, none⟩ u2).heap[b]? = some (.cells #[u0, u1, u2] t (0, 0))
    ∧ Keeps (fun k => k = b) W (((W.setCell ⟨b, 0, none⟩ u0).setCell ⟨b, 1, none⟩ u1).setCell ⟨b, 2, none⟩ u2) := by
  constructor
  · have e := blk_set1 (blk_set1 (blk_set1 h 0 u0) 1 u1) 2 u2
    simp only [List.setIfInBounds_toArray, List.set_cons_zero, List.set_cons_succ] at e
    exact e
  · repeat (refine Keeps.setCell ?_ _ _ rfl)
    exact Keeps.refl _ _
abbrev setV (s l h : Int) : Value := .agg #[.int .u64 s, .int .u64 l, .int .u64 h]
abbrev setC (s l h : Int) : Array Value := #[.int .u64 s, .int .u64 l, .int .u64 h]
set_option maxRecDepth 100000 in
theorem load_set {W : World} {g : Nat} {s l h : Int} (hb : W.heap[g]? = some (.cells (setC s l h) 24 (0, 0))) : (Instr.loadAt 24 (.pointer (some ⟨g, 0, none⟩))).run Tryd.prog W = .ok (setV s l h) W := by
  simp only [Instr.loadAt, Instr.sureAddr, Sem.run_bind, Sem.run_pure, Result.andThen_ok, run_loadVar_row W g 24 24 _ (0, 0) _ hb Tryd.underlying24 rfl (by kernel_rfl)]
theorem load_num {W : World} {g i : Nat} {t : TypeId} {tb : Nat} {cs : Array Value} {k : IntKind} {x : Int} (hu : Tryd.prog.underlying t = some (.int k)) (hb : W.heap[g]? = some (.cells cs tb (0, 0))) (hx : cs[i]? = some (.int k x)) : (Instr.loadAt t (.pointer (some ⟨g, i, none⟩))).run Tryd.prog W = .ok (.int k x) W := by
  have q : W.cell? ⟨g, i, none⟩ = some (.int k x) := by rw [bC_ hb]; exact hx
  have ha : (isAgg t).run Tryd.prog W = .ok false W := by unfold isAgg; rw [Sem.run_bind, run_underlying hu]; rfl
  go_simp
instance (s l h : Int) : Decidable (No s l h) := by unfold No; exact inferInstance
end Go.Proofs.YtpphcfkldhemeaaDoor.B
namespace Go.Proofs.YtpphcfkldhemeaaDoor.B
open Go.RowKit Go.Proofs.YtpphcfkldhemeaaDoorW.PrintWords Go.Proofs.YtpphcfkldhemeaaDoorW.PrintMore Go.RF
set_option linter.unusedVariables false
set_option linter.unusedSimpArgs false
attribute [local go_sem] Oper.semAt_some
def valL (s : Int) : Nat → Int → List Int
  | 0, _ => []
  | n + 1, x => x :: valL s n (x + s)
def stepsN (s l h : Int) : Nat := ((h - l) / max s 1).toNat
theorem steps_eq {s l h : Int} (k : Sm s l h) : (stepsN s l h : Int) * s = h - l ∧ (s = 0 → stepsN s l h = 0) := by
  obtain ⟨k1, k2, k3, k4⟩ := k.rg
  unfold stepsN
  by_cases hs : s = 0
  · subst hs
    have := k.zero
    subst this
    simp
  · unfold Rg at *
    rw [Int.max_eq_left (by omega)]
    have hq : 0 ≤ (h - l) / s := Int.ediv_nonneg (by omega) (by omega)
    rw [Int.toNat_of_nonneg hq]
    exact ⟨Int.ediv_mul_cancel k.hl, fun h => absurd h hs⟩
def valsP (s l h : Int) : List Int := valL s (stepsN s l h + 1) l
def encV (x : Int) : Array Value := #[.int .u64 x]
def intOf : Value → Int | .int _ n => n | _ => 0
set_option maxHeartbeats 8000000 in
set_option maxRecDepth 100000 in
theorem vals_iter (bs : Nat) (s l h : Int) (k : Sm s l h) (W : World) (R : Nat → Prop) (hb : W.heap[bs]? = some (.cells (setC s l h) 24 (0, 0))) (hR : ∀ k, R k → k ≠ bs) :
    Iter Tryd.prog 42 #[.pointer (some ⟨bs, 0, none⟩)] encV (fun _ => False) R (valsP s l h) W := by
  intro lp J Jx hJ hJx hY h0
  refine callsIn_wide.2 ?_
  simp only [List.append_toArray, List.cons_append, List.nil_append]
  have hsz : bs < W.heap.size := (Array.getElem?_eq_some_iff.1 hb).1
  obtain ⟨e1, e2⟩ := steps_eq k
  obtain ⟨⟨k1, k1'⟩, ⟨k2, k2'⟩, ⟨k3, k3'⟩, k4⟩ := k.rg
  obtain ⟨⟨q0, q1, q2⟩, -⟩ := rows3 hb
  have HSO := Aside0.mk (some_sm k)
  have HBS := Aside0.mk hb
  have HY := Aside0.mk hY
  have HRR := Aside0.mk hR
  have HE := Aside0.mk e1
  have HE2 := Aside0.mk e2
  have HJ0 := Aside0.mk h0
  clear hY hR hb e1 e2 h0 k
  go_enter Tryd.func42, Tryd.ntmps42
  go_wp2_with (go_at_call 27; refine (strided_some.calls s l h true _ HSO.out).mono ?_; rintro e w1 ⟨rfl, hb⟩; have HB := Aside0.mk hb; clear hb; have HB1 := Aside0.mk ((HB.out.block bs hsz).trans HBS.out); obtain ⟨⟨q0, q1, q2⟩, -⟩ := rows3 HB1.out)
  go_loopw [3] (fun v wr => ∃ (pre : List Int) (m : Nat) (x : Int), v = .int .u64 x ∧ valsP s l h = pre ++ valL s (m + 1) x ∧ (m : Int) * s = h - x ∧ (s = 0 → m = 0) ∧ 0 ≤ x ∧ J pre wr ∧ Keeps (fun k => R k ∨ W.heap.size ≤ k) W wr) (fun v _ => (h - intOf v).toNat)
  case atStart => exact ⟨[], stepsN s l h, l, rfl, rfl, HE.out, HE2.out, k2, hJ _ _ _ HJ0.out (Keeps.of_below HB.out (fun _ h _ => h)), Keeps.of_below HB.out (fun _ h _ => h)⟩
  case round =>
    obtain ⟨pre, m, x, rfl, hL, hm, hm0, hx0, hj, hk⟩ := hrel
    have hb' := hk.at_ HBS.out (fun h => by rcases h with h | h; exact (HRR.out _ h) rfl; omega)
    have HL := Aside0.mk hL
    have HJ' := Aside0.mk hj
    have HK := Aside0.mk hk
    have HB' := Aside0.mk hb'
    have HM := Aside0.mk hm
    have HM0 := Aside0.mk hm0
    clear hL hj hk hb' hm hm0 q0 q1 q2
    obtain ⟨yf, ytmps, yassign, ybody, hy, hround⟩ := HY.out pre x (valL s m (x + s)) wr (by rw [HL.out]; rfl) HJ'.out
    simp only [encV] at hy
    go_upto_region 2 with (fail)
    refine (wpIn_wide (n := 0)).1 ?_
    gi_wp2
    refine ⟨rfl, hround.mono ?_⟩
    have hbR : ¬ (R bs ∨ W.heap.size ≤ bs) := fun h => by
      rcases h with h | h
      · exact (HRR.out _ h) rfl
      · omega
    rintro e W3 (⟨rfl, hJ3, hk3⟩ | ⟨rfl, hJx3⟩)
    · have HB3 := Aside0.mk (hk3.at_ HB'.out hbR)
      obtain ⟨⟨q0, q1, q2⟩, -⟩ := rows3 HB3.out
      have HJ3 := Aside0.mk hJ3
      have HK3 := Aside0.mk hk3
      clear hJ3 hk3 hround hy hbR
      cases m with
      | zero =>
        have hxh : x = h := by have := HM.out; simp at this; omega
        have hlt : decide (x < h) = false := decide_eq_false (by omega)
        gi_wp2
        go_wp2
        go_end0
        refine ⟨⟨_, rfl⟩, .inl ?_⟩
        rw [HL.out]
        exact HJ3.out
      | succ m =>
        have hs1 : 1 ≤ s := by
          rcases Int.lt_or_le s 1 with h1 | h1
          · have := HM0.out (by omega); omega
          · exact h1
        have hms : 0 ≤ (m : Int) * s := Int.mul_nonneg (by omega) (by omega)
        have hme : (m : Int) * s + s = h - x := by have := HM.out; rw [show ((m + 1 : Nat) : Int) = (m : Int) + 1 by omega, Int.add_mul, Int.one_mul] at this; exact this
        have hlt : decide (x < h) = true := decide_eq_true (by omega)
        gi_wp2
        go_wp2
        refine ⟨⟨pre ++ [x], m, x + s, rfl, by rw [HL.out, valL]; simp, by omega, fun h => by omega, by omega, HJ3.out, HK.out.trans HK3.out⟩, ?_⟩
        show (h - (x + s)).toNat < (h - x).toNat
        omega
    · gi_wp2
      go_wp2
      go_end0
      exact ⟨⟨_, rfl⟩, .inr ⟨pre ++ [x], valL s m (x + s), by rw [HL.out, valL]; simp, hJx3⟩⟩
theorem heap_below {w w1 : World} (hb : Below w.heap.size w w1) {k : Nat} {o : Obj} (h : w.heap[k]? = some o) : w1.heap[k]? = some o := (hb.block k (Array.getElem?_eq_some_iff.1 h).1).trans h
theorem blk_other {W : World} {b b' : Nat} {o : Obj} (h : W.heap[b]? = some o) (hne : b ≠ b') (u : Value) : (W.setCell ⟨b', 0, none⟩ u).heap[b]? = some o := (Below.heap_setCell W _ u b hne).trans h
theorem R_of_own {k : IntKind} {e : Nat} {W : World} {base : Nat} {v : Value} {xs : List Int} (h : W.ownsRow base e 1 v xs.length (nums k xs)) : Kd.R (Kd.int k) e W base (fun _ => True) v xs :=
  ⟨fun _ _ => trivial, nums k xs, h, by simp [nums, Kd.int, Kd.scalar], fun j p hj => by
    show ((nums k xs).drop (j * 1)).take 1 = [Value.int k p]
    rw [Nat.mul_one]
    have hjl := (List.getElem?_eq_some_iff.1 hj).1
    rw [List.drop_eq_getElem_cons (by simpa [nums] using hjl)]
    simp [nums, (List.getElem?_eq_some_iff.1 hj).2]⟩
set_option maxHeartbeats 8000000 in
set_option maxRecDepth 100000 in
theorem values_calls (s l h : Int) (w : World) : Calls Tryd.prog 30 #[setV s l h] w fun e w' => e = .returned (.func (.func 42) #[] #[.pointer (some ⟨w.heap.size, 0, none⟩)]) ∧ w'.heap[w.heap.size]? = some (.cells (setC s l h) 24 (0, 0)) ∧ w'.heap.size = w.heap.size + 1 ∧ Below w.heap.size w w' := by
  go_enter Tryd.func30, Tryd.ntmps30
  go_wp2_with fail
  go_ret
  exact ⟨rfl, World.alloc_heap_new w _, World.size_alloc _ _, bX_ (Below.refl _ _) _⟩
set_option maxHeartbeats 8000000 in
set_option maxRecDepth 100000 in
theorem list_gen (s l h most : Int) (L : List Int) (w : World) (hm0 : 0 < most) (hm1 : most ≤ 1000000) (hL : (L.length : Int) < most)
    (hit : ∀ (bs : Nat) (W : World) (R : Nat → Prop), W.heap[bs]? = some (.cells (setC s l h) 24 (0, 0)) → (∀ k, R k → k ≠ bs) → Iter Tryd.prog 42 #[.pointer (some ⟨bs, 0, none⟩)] encV (fun _ => False) R L W) :
    Calls Tryd.prog 12 #[setV s l h, .int .i64 most] w fun e w' =>
      ∃ v, e = .returned v ∧ Kd.R (Kd.int .u64) 22 w' w.heap.size (fun _ => True) v L ∧ Below w.heap.size w w' := by
  have HIT := Aside0.mk hit
  have HL := Aside0.mk hL
  clear hit hL
  refine calls_of_marks Tryd.func12 rfl ?_
  simp only [Tryd.ntmps12, List.size_toArray, List.length_cons, List.length_nil, Nat.reduceAdd, Nat.reduceSub, Array.replicate_succ, Array.replicate_zero, List.push_toArray, List.append_toArray, List.nil_append, List.cons_append]
  go_wp2_with fail
  have b0 := World.alloc_heap_new w (.cells (setC s l h) 24 (0, 0))
  have b1 := World.alloc_heap_new (w.alloc (.cells (setC s l h) 24 (0, 0))) (.cells #[.int .i64 most] 3)
  have b2 := World.alloc_heap_new ((w.alloc (.cells (setC s l h) 24 (0, 0))).alloc (.cells #[.int .i64 most] 3)) (.cells #[.slice none 0 0] 31)
  simp only [World.size_alloc] at b0 b1 b2
  have hbl : Below w.heap.size w (((w.alloc (.cells (setC s l h) 24 (0, 0))).alloc (.cells #[.int .i64 most] 3)).alloc (.cells #[.slice none 0 0] 31)) := by
    repeat (first | exact Below.refl _ _ | apply bX_)
  have hs1 : (((w.alloc (.cells (setC s l h) 24 (0, 0))).alloc (.cells #[.int .i64 most] 3)).alloc (.cells #[.slice none 0 0] 31)).heap.size = w.heap.size + 3 := by simp
  replace b1 := heap_below (bX_ (Below.refl _ _) (.cells #[.slice none 0 0] 31)) b1
  replace b0 := heap_below (bX_ (Below.refl _ _) (.cells #[.slice none 0 0] 31)) (heap_below (bX_ (Below.refl _ _) (.cells #[.int .i64 most] 3)) b0)
  generalize ((w.alloc (.cells (setC s l h) 24 (0, 0))).alloc (.cells #[.int .i64 most] 3)).alloc (.cells #[.slice none 0 0] 31) = w1 at *
  have hmost : decide (most ≤ 0) = false := decide_eq_false (by omega)
  obtain ⟨⟨q0, q1, q2⟩, -⟩ := rows3 b0
  have c1 := (cell_of_block b1).1
  have B1 := Aside0.mk b1
  have B2 := Aside0.mk b2
  have HBL := Aside0.mk hbl
  clear b0 b1 b2 hbl
  go_step3
  go_wp2_with fail
  go_step3
  go_wp2_with (go_at_call 30; refine (values_calls s l h _).mono ?_; rintro e w2 ⟨rfl, hv1, hv2, hb⟩)
  rw [hs1] at hv1 hv2
  have hbl2 : Below w.heap.size w w2 := HBL.out.trans (hb.mono (by omega))
  have B1' := Aside0.mk (heap_below hb B1.out)
  have B2' := Aside0.mk (heap_below hb B2.out)
  have HV := Aside0.mk hv1
  have HV2 := Aside0.mk hv2
  have HB2 := Aside0.mk hbl2
  clear hv1 hbl2 hb q0 q1 q2 c1
  refine wp_range_plain (α := Int) (gf := 42) rfl (enters_of Tryd.func42 (by kernel_rfl) rfl) (encs := encV) (Q := fun _ => False) (R := fun k => k = w.heap.size + 2) (L := L)
    (fun W hk => HIT.out _ W _ (hk.at_ HV.out (by simp)) (fun k h => by omega))
    (fun k h => h.elim) (fun k h => by have := HV2.out; omega) (fun _ => rfl)
    (fun pre W => Below w.heap.size w W ∧ W.heap[w.heap.size + 1]? = some (.cells #[.int .i64 most] 3 (0, 0)) ∧ ∃ v, W.heap[w.heap.size + 2]? = some (.cells #[v] 31 (0, 0)) ∧ W.ownsRow (w2.heap.size + 2) 22 1 v pre.length (nums .u64 pre))
    (fun _ _ _ => False)
    (fun s A B hs' hk => ⟨hs'.1.trans (hk.below hs'.1.size (fun k hk' h => by have := HV2.out; exact h.elim id (fun h => by omega))), hk.at_ hs'.2.1 (by have := HV2.out; exact fun h => h.elim id (fun h => by omega)), by
      obtain ⟨v, h1, h2⟩ := hs'.2.2
      exact ⟨v, hk.at_ h1 (by have := HV2.out; exact fun h => h.elim id (fun h => by omega)), own_move h2 (fun k hk' => hk.block k (own_lt h2 k hk') (by have := own_base h2 k hk'; have := HV2.out; exact fun h => h.elim id (fun h => by omega)))⟩⟩)
    (fun _ _ _ _ h _ => h.elim) ⟨HB2.out, B1'.out, _, B2'.out, own_nil _ _ _ _⟩
    (fun x => { tmps := #[setV s l h, .int .i64 most, .pointer (some ⟨w.heap.size, 0, none⟩), .pointer (some ⟨w.heap.size + 1, 0, none⟩), .pointer (some ⟨w.heap.size + 1 + 1, 0, none⟩), .int .u64 x, .int .i64 most, .bool false, setV s l h,
      .func (.func 42) #[] #[.pointer (some ⟨w.heap.size + 3, 0, none⟩)], .int .u64 x, undef, undef, undef, undef, undef, undef, undef, undef, undef], defers := [] }) ?assign ?body ?done ?stop
  case assign =>
    intro lp x W K hK
    simp only [encV]
    gi_wp2
    exact hK
  case stop =>
    intro c pre suf W _ h _
    exact h.elim
  case done =>
    rintro W ⟨hB, hm, v, h1, h2⟩ hd
    obtain ⟨Av, cv, rfl⟩ := own_slice h2
    have c1 := (cell_of_block h1).1
    have f1 := (cell_of_block h1).2
    have HB := Aside0.mk hB
    have H1 := Aside0.mk h1
    have H2 := Aside0.mk h2
    have HDD := Aside0.mk hd
    clear hB h1 h2 hd
    rename_i K HK
    show K _ _
    refine HK _ _ ?_
    go_wp2
    have h1' := blk_store H1.out (Value.slice Av L.length cv)
    have hsz2 := HV2.out
    have HDD' : W.heap[w.heap.size + 3 + 1]? = some (.deferred (some [])) := by rw [← hsz2]; exact HDD.out
    refine leave_mark (D := w.heap.size + 3 + 1) (v := .slice Av L.length cv) rfl ((Below.heap_setCell W _ _ (w.heap.size + 3 + 1) (by show w.heap.size + 3 + 1 ≠ w.heap.size + 2; omega)).trans HDD') ?_ ?_
    · have hc := (cell_of_block ((World.putObj_heap_other (r := w.heap.size + 3 + 1) (o := .deferred none) (by omega)).trans h1')).1
      simp [results, Tryd.f12, go_sem, hc]
    · have hkp : Keeps (fun k => k = w.heap.size + 2 ∨ k = w.heap.size + 3 + 1) W ((W.setCell ⟨w.heap.size + 2, 0, none⟩ (.slice Av L.length cv)).putObj (w.heap.size + 3 + 1) (.deferred none)) :=
        ((Keeps.refl _ _).setCell _ _ (.inl rfl)).putObj _ _ (.inr rfl)
      refine ⟨_, rfl, R_of_own (own_less (own_move H2.out (fun k hk => hkp.block k (own_lt H2.out k hk) (by have := own_base H2.out k hk; omega))) (by omega)), HB.out.trans (hkp.below HB.out.size (fun k hk h => by omega))⟩
  case body =>
    rintro lp pre x suf W hL hsz' ⟨hB, hm, v, h1, h2⟩
    obtain ⟨Av, cv, rfl⟩ := own_slice h2
    have htot : pre.length + 1 ≤ L.length := by rw [hL, List.length_append, List.length_cons]; omega
    have c1 := (cell_of_block h1).1
    have f1 := (cell_of_block h1).2
    have cm := (cell_of_block hm).1
    have HB := Aside0.mk hB
    have HM := Aside0.mk hm
    have H1 := Aside0.mk h1
    obtain ⟨i0, hi, hzz⟩ := Option.map_eq_some_iff.1 info22
    simp only [Prod.mk.injEq] at hzz
    obtain ⟨hz0, hz1, hz2⟩ := hzz
    clear hB h1 hm
    have hne : ∀ k, (Value.slice Av pre.length cv).ownBlock = some k → k ≠ w.heap.size + 2 ∧ k ≠ w.heap.size + 1 := fun k hk => by have := own_base h2 k hk; omega
    gi_wp2_with (gi_at_builtin; go_loud (refine wpListIn_append_own _ rfl _ _ 31 rfl (w2.heap.size + 2) 22 i0 (.int .u64 0) 1 8 Tryd.underlying31 hi hz0 hz1 hz2 rfl (by decide) (.slice Av pre.length cv) pre.length (nums .u64 pre) rfl ?o1 ⟨W.heap.size, 0, none⟩ 1 _ [.int .u64 x] rfl ?c1 ?cc ?c2 ?c3 ?c4 ?c5 ?_))
    case o1 => exact own_move h2 (fun k hk => Below.heap_alloc _ _ _ (own_lt h2 k hk))
    case c1 => rfl
    case cc =>
      intro j u hu
      cases j with
      | zero =>
        simp only [List.getElem?_cons_zero, Option.some.injEq] at hu
        subst hu
        exact (cell_of_block (World.alloc_heap_new W _)).1
      | succ j => simp at hu
    case c2 => intro u hu; simp only [List.mem_singleton] at hu; subst hu; rfl
    case c3 => have := HL.out; unfold maxLen; omega
    case c4 => have := HL.out; omega
    case c5 => rw [World.size_alloc]; omega
    intro v' W' hown' hgrow _
    obtain ⟨A', c', rfl⟩ := own_slice hown'
    have h1' := (hgrow.block (w.heap.size + 2) (by have := (Array.getElem?_eq_some_iff.1 H1.out).1; rw [World.size_alloc]; omega) (fun e => (hne _ e.symm).1 rfl)).trans (heap_below (bX_ (Below.refl _ _) _) H1.out)
    have hm' := (hgrow.block (w.heap.size + 1) (by have := (Array.getElem?_eq_some_iff.1 H1.out).1; rw [World.size_alloc]; omega) (fun e => (hne _ e.symm).2 rfl)).trans (heap_below (bX_ (Below.refl _ _) _) HM.out)
    have c1' := (cell_of_block h1').1
    have f1' := (cell_of_block h1').2
    have H1' := Aside0.mk h1'
    have HM' := Aside0.mk hm'
    have HO' := Aside0.mk hown'
    have HG' := Aside0.mk hgrow
    have HO := Aside0.mk h2
    clear h1' hown' hgrow c1 cm f1 hne h2 hm'
    have cm2 := (cell_of_block (blk_other HM'.out (by omega : w.heap.size + 1 ≠ w.heap.size + 2) (.slice A' (pre.length + 1) c'))).1
    have hlt : ((pre.length : Int) + 1 == most) = false := beq_eq_false_iff_ne.2 (by have := HL.out; omega)
    gi_wp2
    have hkp : Keeps (fun k => k = w.heap.size + 2 ∨ w2.heap.size + 2 ≤ k) W (W'.setCell ⟨w.heap.size + 2, 0, none⟩ (.slice A' (pre.length + 1) c')) :=
      Keeps.setCell (Keeps.trans ((Keeps.refl _ W).alloc _) (Keeps.of_grown HG'.out (fun k e => .inr (own_base HO.out k e)))) _ _ (.inl rfl)
    have hsz2 := HV2.out
    refine ⟨hkp, HB.out.trans (hkp.below HB.out.size (fun k hk h => by omega)), blk_other HM'.out (by omega) _, _, blk_store H1'.out _, ?_⟩
    rw [show (pre ++ [x]).length = pre.length + 1 by simp, nums_append]
    exact own_move (own_less HO'.out (by omega)) (fun k hk => Below.heap_setCell W' _ _ k (by have := own_base HO'.out k hk; show k ≠ w.heap.size + 2; omega))
end Go.Proofs.YtpphcfkldhemeaaDoor.B
namespace Go.Proofs.YtpphcfkldhemeaaDoor.B
open Go.RowKit Go.Proofs.YtpphcfkldhemeaaDoorW.PrintWords Go.Proofs.YtpphcfkldhemeaaDoorW.PrintMore Go.RF
set_option linter.unusedVariables false
set_option linter.unusedSimpArgs false
set_option maxHeartbeats 8000000 in
set_option maxRecDepth 100000 in
theorem run_store_set {o : Oper} {ρ : Operand → Value} {x y : Operand} {g : Nat} {v0 v1 v2 : Value} {s l h : Int} {W : World} (ho : o.op = .store 24 x y) (hx : ρ x = .pointer (some ⟨g, 0, none⟩)) (hy : ρ y = setV s l h) (hb : W.heap[g]? = some (.cells #[v0, v1, v2] 24 (0, 0))) :
    (execOp ρ o).run Tryd.prog W = .ok .skip (((W.setCell ⟨g, 0, none⟩ (.int .u64 s)).setCell ⟨g, 1, none⟩ (.int .u64 l)).setCell ⟨g, 2, none⟩ (.int .u64 h)) := by
  obtain ⟨⟨q0, q1, q2⟩, f0, f1, f2⟩ := rows3 hb
  have hu24 := Tryd.underlying24
  unfold execOp
  simp only [ho, hx, hy]
  go_simp
theorem eql_set (s l h s' l' h' : Int) (w : World) : (binOp .eql 24 (setV s l h) (setV s' l' h')).run Tryd.prog w = .ok (.bool (s == s' && (l == l' && (h == h')))) w := by
  simp only [binOp, Op.equal, Op.maxDepth, Sem.run_bind, eqA24, Result.andThen_ok]
  rfl
theorem neq_set (s l h s' l' h' : Int) (w : World) : (binOp .neq 24 (setV s l h) (setV s' l' h')).run Tryd.prog w = .ok (.bool (!(s == s' && (l == l' && (h == h'))))) w := by
  simp only [binOp, Op.equal, Op.maxDepth, Sem.run_bind, eqA24, Result.andThen_ok]
  rfl
set_option maxHeartbeats 8000000 in
set_option maxRecDepth 100000 in
theorem add_val (x y : Int) (w : World) : Calls Tryd.prog 33 #[.int .u64 x, .int .u64 y] w fun e w' => e = .returned (.int .u64 (IntKind.u64.wrap (x + y))) ∧ Below w.heap.size w w' := by
  go_enter Tryd.func33, Tryd.ntmps33
  go_wp2_with fail
  go_ret
  exact ⟨rfl, Below.refl _ _⟩
set_option maxHeartbeats 8000000 in
set_option maxRecDepth 100000 in
theorem both_calls (width : Int) (gv gs : Nat) (lbs : Array Value) (w : World) : Calls Tryd.prog 32 #[.int .i64 width, .func (.func gv) #[] #[], .func (.func gs) #[] lbs] w fun e w' =>
    e = .returned (.func (.func 43) #[] #[.pointer (some ⟨w.heap.size, 0, none⟩), .pointer (some ⟨w.heap.size + 1, 0, none⟩), .pointer (some ⟨w.heap.size + 2, 0, none⟩)]) ∧
    w'.heap[w.heap.size]? = some (.cells #[.int .i64 width] 3 (0, 0)) ∧ w'.heap[w.heap.size + 1]? = some (.cells #[.func (.func gv) #[] #[]] 51 (0, 0)) ∧ w'.heap[w.heap.size + 2]? = some (.cells #[.func (.func gs) #[] lbs] 52 (0, 0)) ∧ Below w.heap.size w w' := by
  go_enter Tryd.func32, Tryd.ntmps32
  go_wp2_with fail
  go_ret
  have b0 := World.alloc_heap_new w (.cells #[.int .i64 width] 3)
  have b1 := World.alloc_heap_new (w.alloc (.cells #[.int .i64 width] 3)) (.cells #[.func (.func gv) #[] #[]] 51)
  have b2 := World.alloc_heap_new ((w.alloc (.cells #[.int .i64 width] 3)).alloc (.cells #[.func (.func gv) #[] #[]] 51)) (.cells #[.func (.func gs) #[] lbs] 52)
  simp only [World.size_alloc] at b1 b2
  refine ⟨rfl, ?_, ?_, b2, bX_ (bX_ (bX_ (Below.refl _ _) _) _) _⟩
  · exact (Below.heap_alloc _ _ _ (by simp; omega)).trans ((Below.heap_alloc _ _ _ (by simp)).trans b0)
  · exact (Below.heap_alloc _ _ _ (by simp)).trans b1
set_option maxHeartbeats 8000000 in
set_option maxRecDepth 100000 in
theorem run_build1 {o : Oper} {ρ : Operand → Value} {x : Operand} {v : Int} {W : World} (ho : o.op = .buildSlice 31 1 #[(0, x)]) (hx : ρ x = .int .u64 v) :
    (execOp ρ o).run Tryd.prog W = .ok (.value (.slice (some ⟨W.heap.size, 0, none⟩) 1 1)) (W.alloc (.cells #[.int .u64 v] 22)) := by
  have hu31 := Tryd.underlying31
  have hu22 := Tryd.underlying22
  unfold execOp
  simp only [ho]
  go_simp
theorem C_one {W : World} {g : Nat} {x : Int} {t : Nat} (h : W.heap[g]? = some (.cells #[.int .u64 x] t (0, 0))) : Kd.C (Kd.int .u64) W (some ⟨g, 0, none⟩) 1 [x] := by
  refine ⟨rfl, by decide, fun _ => ⟨_, rfl, fun j p hj => ?_⟩⟩
  cases j with
  | zero =>
    simp only [List.getElem?_cons_zero, Option.some.injEq] at hj
    subst hj
    refine ⟨[.int .u64 x], rfl, rfl, fun i u hu => ?_⟩
    cases i with
    | zero =>
      simp only [List.getElem?_cons_zero, Option.some.injEq] at hu
      subst hu
      exact (cell_of_block h).1
    | succ i => simp at hu
  | succ j => simp at hj
def SuS (w0 : World) (g0 g1 g2 g3 : Nat) (A B R : Array Value) (X : Option Value) (w : World) : Prop :=
  w.heap[g0]? = some (.cells A 24 (0, 0)) ∧ w.heap[g1]? = some (.cells B 24 (0, 0)) ∧ w.heap[g2]? = some (.cells R 24 (0, 0)) ∧ Tab w ∧ Below w0.heap.size w0 w ∧
  (match X with | none => w.heap.size = g3 | some v => w.heap[g3]? = some (.cells #[v] 22 (0, 0)))
theorem SuS.drew {w0 : World} {g0 g1 g2 g3 : Nat} {A B R : Array Value} {X : Option Value} {w : World} (h : SuS w0 g0 g1 g2 g3 A B R X w) : SuS w0 g0 g1 g2 g3 A B R X { w with drawn := w.drawn + 1 } := by
  obtain ⟨h1, h2, h3, h4, h5, h6⟩ := h
  exact ⟨h1, h2, h3, h4, bY_ h5, h6⟩
theorem SuS.met {w0 : World} {g0 g1 g2 g3 : Nat} {A B R : Array Value} {v : Value} {w w' : World} (h : SuS w0 g0 g1 g2 g3 A B R (some v) w) (hb : Below w.heap.size w w') : SuS w0 g0 g1 g2 g3 A B R (some v) w' :=
  ⟨heap_below hb h.1, heap_below hb h.2.1, heap_below hb h.2.2.1, h.2.2.2.1.below hb, below_step h.2.2.2.2.1 hb, heap_below hb h.2.2.2.2.2⟩
theorem SuS.made {w0 : World} {g0 g1 g2 g3 : Nat} {A B R : Array Value} {v : Value} {w : World} (h : SuS w0 g0 g1 g2 g3 A B R none w) : SuS w0 g0 g1 g2 g3 A B R (some v) (w.alloc (.cells #[v] 22)) := by
  obtain ⟨h1, h2, h3, h4, h5, h6⟩ := h
  have hb : Below w.heap.size w (w.alloc (.cells #[v] 22)) := bX_ (Below.refl _ _) _
  refine ⟨heap_below hb h1, heap_below hb h2, heap_below hb h3, h4.below hb, below_step h5 hb, ?_⟩
  have h6 : w.heap.size = g3 := h6
  subst h6
  exact World.alloc_heap_new w _
theorem heap_set3 {W : World} {b k : Nat} {o : Obj} (h : W.heap[k]? = some o) (hne : k ≠ b) (u0 u1 u2 : Value) : (((W.setCell ⟨b, 0, none⟩ u0).setCell ⟨b, 1, none⟩ u1).setCell ⟨b, 2, none⟩ u2).heap[k]? = some o := by
  rw [Below.heap_setCell _ ⟨b, 2, none⟩ _ k hne, Below.heap_setCell _ ⟨b, 1, none⟩ _ k hne, Below.heap_setCell _ ⟨b, 0, none⟩ _ k hne]
  exact h
theorem tab_set3 {W : World} {b : Nat} (h : Tab W) (hb : b ≠ 0) (u0 u1 u2 : Value) : Tab (((W.setCell ⟨b, 0, none⟩ u0).setCell ⟨b, 1, none⟩ u1).setCell ⟨b, 2, none⟩ u2) := by
  intro i z hz
  have := h i z hz
  unfold World.cell? at this ⊢
  rw [Below.heap_setCell _ ⟨b, 2, none⟩ _ 0 (Ne.symm hb), Below.heap_setCell _ ⟨b, 1, none⟩ _ 0 (Ne.symm hb), Below.heap_setCell _ ⟨b, 0, none⟩ _ 0 (Ne.symm hb)]
  exact this
theorem SuS.stored {w0 : World} {g0 g1 g2 g3 : Nat} {A B : Array Value} {v v0 v1 v2 : Value} {w : World} (h : SuS w0 g0 g1 g2 g3 A B #[v0, v1, v2] (some v) w) (hg : 0 < w0.heap.size ∧ w0.heap.size ≤ g0 ∧ g0 < g1 ∧ g1 < g2 ∧ g2 < g3) (u0 u1 u2 : Value) :
    SuS w0 g0 g1 g2 g3 A B #[u0, u1, u2] (some v) (((w.setCell ⟨g2, 0, none⟩ u0).setCell ⟨g2, 1, none⟩ u1).setCell ⟨g2, 2, none⟩ u2) := by
  obtain ⟨h1, h2, h3, h4, h5, h6⟩ := h
  exact ⟨heap_set3 h1 (by omega) _ _ _, heap_set3 h2 (by omega) _ _ _, (set3 h3 u0 u1 u2).1, tab_set3 h4 (by omega) _ _ _, bS_ (bS_ (bS_ h5 (by omega)) (by omega)) (by omega), heap_set3 h6 (by omega) _ _ _⟩
end Go.Proofs.YtpphcfkldhemeaaDoor.B
namespace Go.Proofs.YtpphcfkldhemeaaDoor.B
open Go.RowKit Go.Proofs.YtpphcfkldhemeaaDoorW.PrintWords Go.Proofs.YtpphcfkldhemeaaDoorW.PrintMore Go.RF
set_option linter.unusedVariables false
set_option linter.unusedSimpArgs false
set_option maxHeartbeats 8000000 in
set_option maxRecDepth 100000 in
theorem add_sets (s1 l1 h1 s2 l2 h2 width r1 r2 r3 : Int) (bw : Nat) (w0 : World) (hT : Tab w0) (hw : w0.heap[bw]? = some (.cells #[.int .i64 width] 3 (0, 0))) (hs1 : 0 ≤ s1) (hs2 : 0 ≤ s2) (hof : strided_Of.f (IntKind.u64.wrap (l1 + l2)) (IntKind.u64.wrap (h1 + h2)) (gI s1 s2) = some (r1, r2, r3)) :
    Calls Tryd.prog 34 #[setV s1 l1 h1, setV s2 l2 h2, .pointer (some ⟨bw, 0, none⟩)] w0 fun e w' => e = .returned (.tuple #[setV r1 r2 r3, .bool (decide (h1 ≤ IntKind.u64.wrap (maskF width - h2)))]) ∧ Below w0.heap.size w0 w' := by
  have hs0 : SuS w0 w0.heap.size (w0.heap.size + 1) (w0.heap.size + 2) (w0.heap.size + 3) (setC s1 l1 h1) (setC s2 l2 h2) (setC 0 0 0) none (((w0.alloc (.cells (setC s1 l1 h1) 24)).alloc (.cells (setC s2 l2 h2) 24)).alloc (.cells (setC 0 0 0) 24)) := by
    have hb : Below w0.heap.size w0 (((w0.alloc (.cells (setC s1 l1 h1) 24)).alloc (.cells (setC s2 l2 h2) 24)).alloc (.cells (setC 0 0 0) 24)) := bX_ (bX_ (bX_ (Below.refl _ _) _) _) _
    have b0 := World.alloc_heap_new w0 (.cells (setC s1 l1 h1) 24)
    have b1 := World.alloc_heap_new (w0.alloc (.cells (setC s1 l1 h1) 24)) (.cells (setC s2 l2 h2) 24)
    have b2 := World.alloc_heap_new ((w0.alloc (.cells (setC s1 l1 h1) 24)).alloc (.cells (setC s2 l2 h2) 24)) (.cells (setC 0 0 0) 24)
    simp only [World.size_alloc] at b1 b2
    exact ⟨(Below.heap_alloc _ _ _ (by simp; omega)).trans ((Below.heap_alloc _ _ _ (by simp)).trans b0), (Below.heap_alloc _ _ _ (by simp)).trans b1, b2, hT.below hb, hb, by simp⟩
  obtain ⟨KD, hdv⟩ := divisor_f s1 [s2] hs1 (by simpa using hs2) (by simp)
  have hdv : strided_divisor.f KD s1 [s2] = some (gI s1 s2) := hdv
  have HDV := Aside0.mk hdv
  have HOF := Aside0.mk hof
  have hlt := hT.lt
  have HS := Aside0.mk hs0
  have hbw : bw < w0.heap.size := (Array.getElem?_eq_some_iff.1 hw).1
  have HW := Aside0.mk hw
  clear hw
  clear hs0 hdv hof hT
  go_enter Tryd.func34, Tryd.ntmps34
  go_upto_region 1 with (fail)
  generalize ((w0.alloc (.cells (setC s1 l1 h1) 24)).alloc (.cells (setC s2 l2 h2) 24)).alloc (.cells (setC 0 0 0) 24) = w1 at *
  obtain ⟨g0, hg0⟩ : ∃ g, w0.heap.size = g := ⟨_, rfl⟩
  have HG0 := Aside0.mk hg0
  obtain ⟨g1, hg1⟩ : ∃ g, w0.heap.size + 1 = g := ⟨_, rfl⟩
  obtain ⟨g2, hg2⟩ : ∃ g, w0.heap.size + 2 = g := ⟨_, rfl⟩
  obtain ⟨g3, hg3⟩ : ∃ g, w0.heap.size + 3 = g := ⟨_, rfl⟩
  have e2 : w0.heap.size + 1 + 1 = g2 := hg2
  (try rw [e2])
  (try rw [hg1])
  (try rw [hg2])
  rw [hg3, hg2, hg1, hg0] at HS
  have HG := Aside0.mk (⟨hlt, by omega, by omega, by omega, by omega⟩ : 0 < w0.heap.size ∧ w0.heap.size ≤ g0 ∧ g0 < g1 ∧ g1 < g2 ∧ g2 < g3)
  (try rw [hg0])
  clear hg1 hg2 hg3 e2 hlt
  refine RS.wp_events (by kernel_rfl) [(7, .pointer (some ⟨g0, 1, none⟩)), (8, .int .u64 l1), (9, .pointer (some ⟨g1, 1, none⟩)), (10, .int .u64 l2), (11, .int .u64 (IntKind.u64.wrap (l1 + l2))), (12, .pointer (some ⟨g0, 2, none⟩)), (13, .int .u64 h1), (14, .pointer (some ⟨g1, 2, none⟩)), (15, .int .u64 h2), (16, .int .u64 (IntKind.u64.wrap (h1 + h2))), (17, .pointer (some ⟨g0, 0, none⟩)), (18, .int .u64 s1), (19, .pointer (some ⟨g1, 0, none⟩)), (20, .int .u64 s2), (21, .slice (some ⟨g3, 0, none⟩) 1 1), (22, .int .u64 (gI s1 s2)), (23, setV r1 r2 r3), (24, .pointer (some ⟨g0, 2, none⟩)), (25, .int .u64 h1), (26, .int .i64 width), (27, .int .u64 (maskF width)), (28, .pointer (some ⟨g1, 2, none⟩)), (29, .int .u64 h2), (30, .int .u64 (IntKind.u64.wrap (maskF width - h2))), (31, .bool (decide (h1 ≤ IntKind.u64.wrap (maskF width - h2)))), (6, .bool (decide (h1 ≤ IntKind.u64.wrap (maskF width - h2))))] (fun f w => SuS w0 g0 g1 g2 g3 (setC s1 l1 h1) (setC s2 l2 h2) (bif f 25 then setC r1 r2 r3 else setC 0 0 0) (bif f 14 then some (.int .u64 s2) else none) w) (by kernel_rfl) (by kernel_rfl) (fun f hf => ?_) ?_ ?_
  · simp only [hf 25 (by decide), hf 14 (by decide), cond_false]
    exact HS.out.drew
  · exact ⟨RS.StepE.pure 7 (by kernel_rfl) rfl (fun w => by kernel_rfl) (fun f w h => h),
    RS.StepE.load 8 (.int .u64 l1) (by kernel_rfl) (by kernel_rfl) rfl (fun f w h => h) (fun f w p1 p2 h => run_load rfl (by kernel_rfl) (load_num (i := 1) Tryd.underlying22 h.1 rfl)),
    RS.StepE.pure 9 (by kernel_rfl) rfl (fun w => by kernel_rfl) (fun f w h => h),
    RS.StepE.load 10 (.int .u64 l2) (by kernel_rfl) (by kernel_rfl) rfl (fun f w h => h) (fun f w p1 p2 h => run_load rfl (by kernel_rfl) (load_num (i := 1) Tryd.underlying22 h.2.1 rfl)),
    RS.StepE.pure 11 (by kernel_rfl) rfl (fun w => by kernel_rfl) (fun f w h => h),
    RS.StepE.pure 12 (by kernel_rfl) rfl (fun w => by kernel_rfl) (fun f w h => h),
    RS.StepE.load 13 (.int .u64 h1) (by kernel_rfl) (by kernel_rfl) rfl (fun f w h => h) (fun f w p1 p2 h => run_load rfl (by kernel_rfl) (load_num (i := 2) Tryd.underlying22 h.1 rfl)),
    RS.StepE.pure 14 (by kernel_rfl) rfl (fun w => by kernel_rfl) (fun f w h => h),
    RS.StepE.load 15 (.int .u64 h2) (by kernel_rfl) (by kernel_rfl) rfl (fun f w h => h) (fun f w p1 p2 h => run_load rfl (by kernel_rfl) (load_num (i := 2) Tryd.underlying22 h.2.1 rfl)),
    RS.StepE.pure 16 (by kernel_rfl) rfl (fun w => by kernel_rfl) (fun f w h => h),
    RS.StepE.pure 17 (by kernel_rfl) rfl (fun w => by kernel_rfl) (fun f w h => h),
    RS.StepE.load 18 (.int .u64 s1) (by kernel_rfl) (by kernel_rfl) rfl (fun f w h => h) (fun f w p1 p2 h => run_load rfl (by kernel_rfl) (load_num (i := 0) Tryd.underlying22 h.1 rfl)),
    RS.StepE.pure 19 (by kernel_rfl) rfl (fun w => by kernel_rfl) (fun f w h => h),
    RS.StepE.load 20 (.int .u64 s2) (by kernel_rfl) (by kernel_rfl) rfl (fun f w h => h) (fun f w p1 p2 h => run_load rfl (by kernel_rfl) (load_num (i := 0) Tryd.underlying22 h.2.1 rfl)),
    RS.StepE.event (.slice (some ⟨g3, 0, none⟩) 1 1) (by intro d hd; cases hd; kernel_rfl) (by kernel_rfl) (fun g w h0 p1 p2 h => by
      have h0 : g 14 = false := h0
      simp only [h0, cond_false] at h
      have hg : w.heap.size = g3 := h.2.2.2.2.2
      refine ⟨w.alloc (.cells #[.int .u64 s2] 22), .inl ((run_build1 (v := s2) rfl (by kernel_rfl)).trans (by rw [hg])), ?_⟩
      · show SuS w0 g0 g1 g2 g3 _ _ (bif g 25 then _ else _) (some (.int .u64 s2)) _
        exact h.made),
    RS.StepE.call 22 29 #[.int .u64 s1, .slice (some ⟨g3, 0, none⟩) 1 1] (.int .u64 (gI s1 s2)) (by kernel_rfl) (by kernel_rfl) rfl (fun w => by kernel_rfl) (fun g w h0 p1 p2 h => by
      have e14 : g 14 = true := p1 14 (by kernel_rfl)
      simp only [e14, cond_true] at h
      refine (strided_divisor.calls KD s1 (some ⟨g3, 0, none⟩) 1 [s2] (gI s1 s2) w (C_one h.2.2.2.2.2) (by simp) HDV.out).mono ?_
      rintro e w' ⟨rfl, hb⟩
      have hb := hb.below
      refine ⟨rfl, ?_⟩
      show SuS w0 g0 g1 g2 g3 _ _ (bif g 25 then _ else _) (bif g 14 then _ else _) w'
      rw [e14]
      exact h.met hb),
    RS.StepE.call 23 23 #[.int .u64 (IntKind.u64.wrap (l1 + l2)), .int .u64 (IntKind.u64.wrap (h1 + h2)), .int .u64 (gI s1 s2)] (setV r1 r2 r3) (by kernel_rfl) (by kernel_rfl) rfl (fun w => by kernel_rfl) (fun g w h0 p1 p2 h => by
      have e14 : g 14 = true := p1 14 (by kernel_rfl)
      simp only [e14, cond_true] at h
      refine (strided_Of.calls (IntKind.u64.wrap (l1 + l2)) (IntKind.u64.wrap (h1 + h2)) (gI s1 s2) r1 r2 r3 w HOF.out).mono ?_
      rintro e w' ⟨rfl, hb⟩
      refine ⟨rfl, ?_⟩
      show SuS w0 g0 g1 g2 g3 _ _ (bif g 25 then _ else _) (bif g 14 then _ else _) w'
      rw [e14]
      exact h.met hb),
    RS.StepE.pure 24 (by kernel_rfl) rfl (fun w => by kernel_rfl) (fun f w h => h),
    RS.StepE.load 25 (.int .u64 h1) (by kernel_rfl) (by kernel_rfl) rfl (fun f w h => h) (fun f w p1 p2 h => run_load rfl (by kernel_rfl) (load_num (i := 2) Tryd.underlying22 h.1 rfl)),
    RS.StepE.load 26 (.int .i64 width) (by kernel_rfl) (by kernel_rfl) rfl (fun f w h => h) (fun f w p1 p2 h => run_load rfl (by kernel_rfl) (load_num (i := 0) Tryd.underlying3 ((h.2.2.2.2.1.block bw hbw).trans HW.out) rfl)),
    RS.StepE.call 27 35 #[.int .i64 width] (.int .u64 (maskF width)) (by kernel_rfl) (by kernel_rfl) rfl (fun w => by kernel_rfl) (fun g w h0 p1 p2 h => by
      have e14 : g 14 = true := p1 14 (by kernel_rfl)
      simp only [e14, cond_true] at h
      refine (mask_calls width w h.2.2.2.1).mono ?_
      rintro e w' ⟨rfl, hb⟩
      refine ⟨rfl, ?_⟩
      show SuS w0 g0 g1 g2 g3 _ _ (bif g 25 then _ else _) (bif g 14 then _ else _) w'
      rw [e14]
      exact h.met hb),
    RS.StepE.pure 28 (by kernel_rfl) rfl (fun w => by kernel_rfl) (fun f w h => h),
    RS.StepE.load 29 (.int .u64 h2) (by kernel_rfl) (by kernel_rfl) rfl (fun f w h => h) (fun f w p1 p2 h => run_load rfl (by kernel_rfl) (load_num (i := 2) Tryd.underlying22 h.2.1 rfl)),
    RS.StepE.pure 30 (by kernel_rfl) rfl (fun w => by kernel_rfl) (fun f w h => h),
    RS.StepE.pure 31 (by kernel_rfl) rfl (fun w => by kernel_rfl) (fun f w h => h),
    RS.StepE.event (undef) (by intro d hd; cases hd) (by kernel_rfl) (fun g w h0 p1 p2 h => by
      have e14 : g 14 = true := p1 14 (by kernel_rfl)
      have h0 : g 25 = false := h0
      simp only [h0, e14, cond_true, cond_false] at h
      refine ⟨_, .inr ⟨run_store_set (g := g2) (s := r1) (l := r2) (h := r3) rfl (by kernel_rfl) (by kernel_rfl) h.2.2.1, rfl⟩, ?_⟩
      show SuS w0 g0 g1 g2 g3 _ _ (setC r1 r2 r3) (bif g 14 then _ else _) _
      rw [e14]
      exact h.stored HG.out _ _ _),
    RS.StepE.pure 6 (by kernel_rfl) rfl (fun w => by kernel_rfl) (fun f w h => h), trivial⟩
  rintro f w2 hf hs
  simp only [hf, cond_true] at hs
  clear HS
  have HB := Aside0.mk hs.2.2.2.2.1
  have HR := Aside0.mk hs.2.2.1
  clear hs
  (try simp only [RS.sets, List.setIfInBounds_toArray, List.set_cons_zero, List.set_cons_succ])
  have hu24 := Tryd.underlying24
  go_wp2_with fail
  refine bodyPost_ret (results_ct rfl _ _ g2 24 _ (0, 0) _ rfl HR.out Tryd.underlying24 rfl (by kernel_rfl)) rfl ⟨rfl, HB.out⟩
end Go.Proofs.YtpphcfkldhemeaaDoor.B
