/- What operand.Take tells, as numbers. The closure 'number' of operand.Put: it appends a displacement's bytes. math/bits.TrailingZeros at 1, 2, 4, 8, where the table lies as it is laid. -/
import Derived.Test.YtppeidopijnnlaaDoorBq3
import Derived.BigGuardPart
import Derived.Deep.AppendLies
import Derived.Deep.RegionLaw
namespace Go.Proofs.YtppeidopijnnlaaDoor.B
open Go.RowKit Go.Proofs.YtppeidopijnnlaaDoorW.PrintWords Go.Proofs.YtppeidopijnnlaaDoorW.PrintMore Go.RF
set_option linter.unusedVariables false
set_option linter.unusedSimpArgs false
attribute [local go_sem] Oper.semAt_some
abbrev TakeT := Int × Int × Int × Int × Int × Int × Int × Bool × Int × Int × Int
def failT : TakeT := (0, 0, 0, 0, 0, 0, 0, false, 0, 0, 80)
def dispStep (wd : Int) (d : Int) (x : Nat × Int) : Int := if (x.1 : Int) = wd - 1 then wrap64 (IntKind.i8.wrap x.2) else Go.bits .or .i64 (wrap64 (d * 256)) x.2
def dispOf (wd : Int) (xs : List Int) : Int := (backL xs xs.length).foldl (dispStep wd) 0
def takeRest (l : List Int) (rex used wd k R base idx sc : Int) (rip : Bool) : TakeT :=
  if (l.length : Int) < used + wd then failT
  else (l.getD 0 0 / 8 % 8 + mo (rex / 4), k, R, base, idx, sc, dispOf wd ((l.drop used.toNat).take wd.toNat), rip, 0, used + wd, 0)
def takeF (l : List Int) (rex : Int) : TakeT :=
  if l.length = 0 then failT
  else
    let b0 := l.getD 0 0
    let r := b0 % 8
    let wd := wid (b0 / 64)
    if b0 / 64 = 3 then takeRest l rex 1 wd 1 (r + mo rex) (-1) (-1) 0 false
    else if r = 4 then
      if l.length < 2 then failT
      else
        let b1 := l.getD 1 0
        let x := b1 / 8 % 8 + mo (rex / 2)
        let idx := if x = 4 then -1 else x
        let sc := if x = 4 then 1 else 2 ^ (b1 / 64).toNat
        if b1 % 8 = 5 ∧ b0 / 64 = 0 then takeRest l rex 2 4 2 0 (-1) idx sc false
        else takeRest l rex 2 wd 2 0 (b1 % 8 + mo rex) idx sc false
    else if r = 5 ∧ b0 / 64 = 0 then takeRest l rex 1 4 2 0 (-1) (-1) 1 true
    else takeRest l rex 1 wd 2 0 (r + mo rex) (-1) 1 false
theorem rows8 {W : World} {b : Nat} {v0 v1 v2 v3 v4 v5 v6 v7 : Value} {t : Nat} (h : W.heap[b]? = some (.cells #[v0, v1, v2, v3, v4, v5, v6, v7] t (0, 0))) :
    (W.cell? ⟨b, 0, none⟩ = some v0 ∧ W.cell? ⟨b, 1, none⟩ = some v1 ∧ W.cell? ⟨b, 2, none⟩ = some v2 ∧ W.cell? ⟨b, 3, none⟩ = some v3 ∧ W.cell? ⟨b, 4, none⟩ = some v4 ∧ W.cell? ⟨b, 5, none⟩ = some v5 ∧ W.cell? ⟨b, 6, none⟩ = some v6 ∧ W.cell? ⟨b, 7, none⟩ = some v7)
    ∧ (W.frozen? ⟨b, 0, none⟩ = false ∧ W.frozen? ⟨b, 1, none⟩ = false ∧ W.frozen? ⟨b, 2, none⟩ = false ∧ W.frozen? ⟨b, 3, none⟩ = false ∧ W.frozen? ⟨b, 4, none⟩ = false ∧ W.frozen? ⟨b, 5, none⟩ = false ∧ W.frozen? ⟨b, 6, none⟩ = false ∧ W.frozen? ⟨b, 7, none⟩ = false) :=
  ⟨⟨by rw [bC_ h]; rfl, by rw [bC_ h]; rfl, by rw [bC_ h]; rfl, by rw [bC_ h]; rfl, by rw [bC_ h]; rfl, by rw [bC_ h]; rfl, by rw [bC_ h]; rfl, by rw [bC_ h]; rfl⟩,
   bF_ h 0, bF_ h 1, bF_ h 2, bF_ h 3, bF_ h 4, bF_ h 5, bF_ h 6, bF_ h 7⟩
theorem set8 {W : World} {b : Nat} {v0 v1 v2 v3 v4 v5 v6 v7 : Value} {t : Nat} (h : W.heap[b]? = some (.cells #[v0, v1, v2, v3, v4, v5, v6, v7] t (0, 0))) (u0 u1 u2 u3 u4 u5 u6 u7 : Value) :
    ((((((((W.setCell ⟨b, 0, none⟩ u0).setCell ⟨b, 1, none⟩ u1).setCell ⟨b, 2, none⟩ u2).setCell ⟨b, 3, none⟩ u3).setCell ⟨b, 4, none⟩ u4).setCell ⟨b, 5, none⟩ u5).setCell ⟨b, 6, none⟩ u6).setCell ⟨b, 7, none⟩ u7).heap[b]? = some (.cells #[u0, u1, u2, u3, u4, u5, u6, u7] t (0, 0))
    ∧ Keeps (fun k => k = b) W ((((((((W.setCell ⟨b, 0, none⟩ u0).setCell ⟨b, 1, none⟩ u1).setCell ⟨b, 2, none⟩ u2).setCell ⟨b, 3, none⟩ u3).setCell ⟨b, 4, none⟩ u4).setCell ⟨b, 5, none⟩ u5).setCell ⟨b, 6, none⟩ u6).setCell ⟨b, 7, none⟩ u7) := by
  constructor
  · have e := blk_set (blk_set (blk_set (blk_set (blk_set (blk_set (blk_set (blk_set h 0 u0) 1 u1) 2 u2) 3 u3) 4 u4) 5 u5) 6 u6) 7 u7
    simp only [List.setIfInBounds_toArray, List.set_cons_zero, List.set_cons_succ] at e
    exact e
  · repeat (refine Keeps.setCell ?_ _ _ rfl)
    exact Keeps.refl _ _
theorem set_2 {W : World} {b : Nat} {v0 v1 v2 v3 v4 v5 v6 v7 : Value} {t : Nat} (h : W.heap[b]? = some (.cells #[v0, v1, v2, v3, v4, v5, v6, v7] t (0, 0))) (u2 : Value) :
    (W.setCell ⟨b, 2, none⟩ u2).heap[b]? = some (.cells #[v0, v1, u2, v3, v4, v5, v6, v7] t (0, 0)) := by
  have e := (blk_set h 2 u2)
  simp only [List.setIfInBounds_toArray, List.set_cons_zero, List.set_cons_succ] at e
  exact e
theorem set_34 {W : World} {b : Nat} {v0 v1 v2 v3 v4 v5 v6 v7 : Value} {t : Nat} (h : W.heap[b]? = some (.cells #[v0, v1, v2, v3, v4, v5, v6, v7] t (0, 0))) (u3 u4 : Value) :
    ((W.setCell ⟨b, 3, none⟩ u3).setCell ⟨b, 4, none⟩ u4).heap[b]? = some (.cells #[v0, v1, v2, u3, u4, v5, v6, v7] t (0, 0)) := by
  have e := (blk_set (blk_set h 3 u3) 4 u4)
  simp only [List.setIfInBounds_toArray, List.set_cons_zero, List.set_cons_succ] at e
  exact e
theorem set_26 {W : World} {b : Nat} {v0 v1 v2 v3 v4 v5 v6 v7 : Value} {t : Nat} (h : W.heap[b]? = some (.cells #[v0, v1, v2, v3, v4, v5, v6, v7] t (0, 0))) (u2 u6 : Value) :
    ((W.setCell ⟨b, 2, none⟩ u2).setCell ⟨b, 6, none⟩ u6).heap[b]? = some (.cells #[v0, v1, u2, v3, v4, v5, u6, v7] t (0, 0)) := by
  have e := (blk_set (blk_set h 2 u2) 6 u6)
  simp only [List.setIfInBounds_toArray, List.set_cons_zero, List.set_cons_succ] at e
  exact e
theorem set_5 {W : World} {b : Nat} {v0 v1 v2 v3 v4 v5 v6 v7 : Value} {t : Nat} (h : W.heap[b]? = some (.cells #[v0, v1, v2, v3, v4, v5, v6, v7] t (0, 0))) (u5 : Value) :
    (W.setCell ⟨b, 5, none⟩ u5).heap[b]? = some (.cells #[v0, v1, v2, v3, v4, u5, v6, v7] t (0, 0)) := by
  have e := (blk_set h 5 u5)
  simp only [List.setIfInBounds_toArray, List.set_cons_zero, List.set_cons_succ] at e
  exact e
theorem and7_cases : ∀ q : Fin 256, Go.bits .and .u8 (q.val : Int) 7 = (q.val : Int) % 8 := by decide +kernel
theorem and7 (q : Int) (h0 : 0 ≤ q) (h1 : q < 256) : Go.bits .and .u8 q 7 = q % 8 := by
  have h := and7_cases ⟨q.toNat, by omega⟩
  have e : (((⟨q.toNat, by omega⟩ : Fin 256).val : Nat) : Int) = q := by show ((q.toNat : Nat) : Int) = q; omega
  rw [e] at h
  exact h
theorem wrap_small (x : Int) (h0 : 0 ≤ x) (h1 : x < 1000) : IntKind.i64.wrap x = x := by
  rw [IntKind.wrap_i64]
  omega
theorem sib_base (b m : Int) (h0 : 0 ≤ b) (h1 : b < 256) (h2 : 0 ≤ m) (h3 : m ≤ 8) : IntKind.i64.wrap (IntKind.i64.wrap (Go.bits .and .u8 b 7) + m) = b % 8 + m := by
  have e1 := wrap_small (b % 8) (by omega) (by omega)
  have e2 := wrap_small (b % 8 + m) (by omega) (by omega)
  rw [and7 b h0 h1, e1, e2]
theorem sib_base64 (b m : Int) (h0 : 0 ≤ b) (h1 : b < 256) (h2 : 0 ≤ m) (h3 : m ≤ 8) : wrap64 (b % 8 + m) = b % 8 + m := by
  unfold wrap64
  omega
theorem mem_backL (xs : List Int) (x : Nat × Int) : ∀ n, x ∈ backL xs n → ∃ m, m < n ∧ x = (m, xs.getD m 0)
  | 0, h => by simp [backL] at h
  | n + 1, h => by
    unfold backL at h
    rcases List.mem_cons.1 h with h | h
    · exact ⟨n, Nat.lt_succ_self _, h⟩
    · obtain ⟨m, hm, e⟩ := mem_backL xs x n h
      exact ⟨m, by omega, e⟩
theorem add_add (ad : Addr) (m n : Nat) : (ad.add m).add n = ad.add (m + n) := by
  unfold Addr.add
  by_cases hm : m = 0
  · subst hm
    simp
  · by_cases hn : n = 0
    · subst hn
      simp [hm]
    · rw [if_neg hm, if_neg hn, if_neg (by omega)]
      simp [Nat.add_assoc]
theorem getD_part (l : List Int) (u n j : Nat) (hj : j < ((l.drop u).take n).length) : ((l.drop u).take n).getD j 0 = l.getD (u + j) 0 := by
  rw [List.length_take, List.length_drop] at hj
  rw [List.getD_eq_getElem?_getD, List.getD_eq_getElem?_getD, List.getElem?_take, if_pos (by omega), List.getElem?_drop]
theorem getD_range (l : List Int) (hl : ∀ y ∈ l, 0 ≤ y ∧ y < 256) (j : Nat) : 0 ≤ l.getD j 0 ∧ l.getD j 0 < 256 := by
  rw [List.getD_eq_getElem?_getD]
  cases h : l[j]? with
  | none => exact ⟨by decide, by decide⟩
  | some v => exact hl v (List.mem_of_getElem? h)
end Go.Proofs.YtppeidopijnnlaaDoor.B
namespace Go.Proofs.YtppeidopijnnlaaDoor.B
open Go.RowKit Go.Proofs.YtppeidopijnnlaaDoorW.PrintWords Go.Proofs.YtppeidopijnnlaaDoorW.PrintMore Go.RF
set_option linter.unusedVariables false
set_option linter.unusedSimpArgs false
attribute [local go_sem] Oper.semAt_some
theorem results11 : Tryd.f11.results = #[.tmp 4, .cell 5 23, .tmp 6, .tmp 7] := rfl
theorem results_take {T : Array Value} {W : World} {b : Nat} {v0 v1 v2 v3 v4 v5 v6 v7 : Value} (h : W.heap[b]? = some (.cells #[v0, v1, v2, v3, v4, v5, v6, v7] 23 (0, 0))) (ht : T.getD 5 undef = .pointer (some ⟨b, 0, none⟩)) :
    (results Tryd.f11 T).run Tryd.prog W = .ok (.tuple #[T.getD 4 undef, .agg #[v0, v1, v2, v3, v4, v5, v6, v7], T.getD 6 undef, T.getD 7 undef]) W := by
  obtain ⟨⟨q0, q1, q2, q3, q4, q5, q6, q7⟩, -⟩ := rows8 h
  have hu23 := Tryd.underlying23
  have ht1 : T[5]?.getD undef = .pointer (some ⟨b, 0, none⟩) := by rw [← ht]; simp
  simp only [results, results11]
  simp [go_sem, ht1, q0, q1, q2, q3, q4, q5, q6, q7]
end Go.Proofs.YtppeidopijnnlaaDoor.B
namespace Go.Proofs.YtppeidopijnnlaaDoor.B
open Go.RowKit Go.Proofs.YtppeidopijnnlaaDoorW.PrintWords Go.Proofs.YtppeidopijnnlaaDoorW.PrintMore Go.RF
set_option linter.unusedVariables false
set_option linter.unusedSimpArgs false
attribute [local go_sem] Oper.semAt_some
def byteAt (dp : Int) (j : Nat) : Int := IntKind.u8.wrap (dp / 2 ^ (8 * j))
def dispB (dp : Int) (n : Nat) : List Int := (List.range n).map (byteAt dp)
theorem infoB : (Tryd.prog.info? 5).map (fun i => (i.zero, i.size, i.bytes)) = some (some (.int .u8 0), 1, 1) := by kernel_rfl
theorem shift_run (dp : Int) (i : Nat) (hi : i < 4) (W : World) : Sem.run Tryd.prog (Op.shift BinOp.shr IntKind.i64 dp IntKind.i64 (IntKind.i64.wrap (8 * (i : Int)))) W = .ok (.int .i64 (dp / 2 ^ (8 * i))) W := by
  have h : IntKind.i64.wrap (8 * (i : Int)) = 8 * i := wrap_small _ (by omega) (by omega)
  rw [h]
  unfold Op.shift
  rw [if_neg (by omega)]
  have hm : min (8 * (i : Int)).toNat IntKind.i64.bits = 8 * i := by
    have : IntKind.i64.bits = 64 := rfl
    omega
  rw [hm]
  have hp : dp.fdiv (2 ^ (8 * i)) = dp / 2 ^ (8 * i) := by
    have : (0 : Int) ≤ 2 ^ (8 * i) := Int.pow_nonneg (by omega)
    exact Int.fdiv_eq_ediv_of_nonneg _ this
  show Sem.run Tryd.prog (pure (Value.int .i64 (dp.fdiv (2 ^ (8 * i)))) : Sem Value) W = _
  rw [hp]
  rfl
set_option maxHeartbeats 8000000 in
set_option maxRecDepth 100000 in
theorem number_calls (bb rb n base : Nat) (v : Value) (xs : List Int) (v0 v1 v2 v3 v4 v6 v7 : Value) (dp : Int) (w : World) (hn : n ≤ 4) (hxs : xs.length ≤ 100) (hb : w.heap[bb]? = some (.cells #[v] 24 (0, 0))) (hr : w.heap[rb]? = some (.cells #[v0, v1, v2, v3, v4, .int .i64 dp, v6, v7] 23 (0, 0)))
    (ho : w.ownsRow base 5 1 v xs.length (nums .u8 xs)) (hbb : bb < base) (hrb : rb < base) (hne : bb ≠ rb) (hbs : base ≤ w.heap.size) :
    Calls Tryd.prog 25 #[.int .i64 n, .pointer (some ⟨bb, 0, none⟩), .pointer (some ⟨rb, 0, none⟩)] w fun e w' => (∃ u, e = .returned u) ∧ ∃ v', w'.heap[bb]? = some (.cells #[v'] 24 (0, 0)) ∧ w'.ownsRow base 5 1 v' (xs.length + n) (nums .u8 (xs ++ dispB dp n)) ∧ Keeps (fun k => k = bb ∨ base ≤ k) w w' := by
  have HB := Aside0.mk hb
  have HRR := Aside0.mk hr
  have HO := Aside0.mk ho
  clear hb hr ho
  go_enter Tryd.func25, Tryd.ntmps25
  go_wp2
  go_loopg [6] n (fun kq t6 w' => ∃ (i : Nat) (v' : Value), t6 = .int .i64 i ∧ Aside0 (i + kq = n) ∧ Aside0 (w'.heap[bb]? = some (.cells #[v'] 24 (0, 0))) ∧ Aside0 (w'.ownsRow base 5 1 v' (xs.length + i) (nums .u8 (xs ++ dispB dp i))) ∧ Aside0 (Keeps (fun k => k = bb ∨ base ≤ k) w w'))
  case atStart => exact ⟨0, v, rfl, ⟨by omega⟩, HB, ⟨by simpa [dispB] using HO.out⟩, ⟨Keeps.refl _ _⟩⟩
  case round =>
    obtain ⟨i, v', rfl, HI, HV, HO', HK⟩ := hrel
    have hbw : base ≤ wr.heap.size := Nat.le_trans hbs HK.out.size
    have hbbw : bb < wr.heap.size := by omega
    have hrbw : rb < wr.heap.size := by omega
    have hgk := HI.out
    by_cases hi : i < n
    · obtain ⟨k1, rfl⟩ : ∃ k1, gk = k1 + 1 := ⟨gk - 1, by omega⟩
      have e1 : decide ((i : Int) < (n : Int)) = true := decide_eq_true (by omega)
      have E3 : Aside0 (wrap64 ((i : Int) + 1) = i + 1) := ⟨by unfold wrap64; omega⟩
      have hml : xs.length + i + 1 ≤ maxLen := by unfold maxLen; omega
      have hml2 : (xs.length + i + 1) * 1 ≤ 140737488355328 := by omega
      have hi4 : i < 4 := by omega
      have hbw1 : base ≤ wr.heap.size + 1 := by omega
      obtain ⟨qb, zb⟩ := cell_of_block HV.out
      have qd : wr.cell? ⟨rb, 5, none⟩ = some (.int .i64 dp) := by rw [bC_ (HK.out.at_ HRR.out (by omega))]; rfl
      go_upto_block 1 with (fail)
      go_cut [4] from 7 to 17 (fun v4 wc => ∃ v2 : Value, Aside0 (wc.heap[bb]? = some (.cells #[v2] 24 (0, 0))) ∧ Aside0 (wc.ownsRow base 5 1 v2 (xs.length + (i + 1)) (nums .u8 (xs ++ dispB dp (i + 1)))) ∧ Aside0 (Keeps (fun k => k = bb ∨ base ≤ k) w wc))
      case first =>
        go_upto_region 3 with (fail)
        have hnb : ∀ k, v'.ownBlock = some k → base ≤ k := own_base HO'.out
        obtain ⟨i0, hi0, hzz⟩ := Option.map_eq_some_iff.1 infoB
        simp only [Prod.mk.injEq] at hzz
        obtain ⟨hz0, hz1, hz2⟩ := hzz
        have hsh := fun W => shift_run dp i hi4 W
        have QA : ∀ o, (wr.alloc o).cell? ⟨bb, 0, none⟩ = some v' := fun o => (World.cell?_alloc_some _ _ _ (by rw [qb]; rfl)).trans qb
        have ZA : ∀ o, (wr.alloc o).frozen? ⟨bb, 0, none⟩ = false := fun o => (World.frozen?_alloc_past o bb 0 hbbw).trans zb
        go_region_law
          ((refine step_append_lies _ (by rfl) _ _ _ (by rfl) base 5 i0 _ 1 1 Tryd.underlying24 hi0 hz0 hz1 hz2 rfl (by omega) v' _ _ (by rfl) ((HO'.out.alloc _).drew) ⟨wr.heap.size, 0, none⟩ 1 1 [.int .u8 (byteAt dp i)] (by rfl) (by rfl) (World.news_of_block (cs := #[.int .u8 (byteAt dp i)]) (t := 5) (fr := (0, 0)) (World.alloc_heap_new wr _)) (by simp [Value.oneCell']) (by omega) hml hml2 (by simp; exact hbw1) (wr.heap.size + 1) (by simp) ?_; intro g cap w1 hown hgrow hat hlt; have qb1 : w1.cell? ⟨bb, 0, none⟩ = some v' := (hgrow.cell_far ⟨bb, 0, none⟩ (by simp; omega) (fun e => absurd (hnb _ e.symm) (Nat.not_le.2 hbb))).trans (QA _); have zb1 : w1.frozen? ⟨bb, 0, none⟩ = false := (hgrow.frozen_far ⟨bb, 0, none⟩ (by simp; omega) (fun e => absurd (hnb _ e.symm) (Nat.not_le.2 hbb))).trans (ZA _)))
        all_goals have HOW := Aside0.mk hown
        all_goals have HGR := Aside0.mk hgrow
        all_goals have hal : ∀ o, (wr.alloc o).heap[bb]? = some (.cells #[v'] 24 (0, 0)) := fun o => (Below.heap_alloc _ _ _ hbbw).trans HV.out
        all_goals have hb1 : w1.heap[bb]? = some (.cells #[v'] 24 (0, 0)) := (HGR.out.block bb (by simp; omega) (fun e => absurd (hnb _ e.symm) (Nat.not_le.2 hbb))).trans (hal _)
        all_goals have hkp : Keeps (fun k => k = bb ∨ base ≤ k) wr w1 := Keeps.trans ((Keeps.refl _ wr).alloc (.cells #[.int .u8 (byteAt dp i)] 5)).drew (Keeps.of_grown HGR.out (fun k e => Or.inr (hnb k e)))
        all_goals clear hown hgrow hat hlt qb1 zb1 QA ZA hsh
        all_goals try go_wp2
        all_goals go_meet
        all_goals refine ⟨_, ⟨blk_store hb1 _⟩, ⟨?_⟩, ⟨HK.out.trans (hkp.setCell _ _ (.inl rfl))⟩⟩
        all_goals rw [show dispB dp (i + 1) = dispB dp i ++ [byteAt dp i] by simp [dispB, List.range_succ], ← List.append_assoc, nums_append]
        all_goals exact own_setCell HOW.out (p := ⟨bb, 0, none⟩) (fun e => absurd (own_base HOW.out _ e.symm) (Nat.not_le.2 hbb)) _
      case rest =>
        obtain ⟨v2, HV2, HO2, HK2⟩ := hcut
        have e3 := E3.out
        clear e1 hml hml2
        go_wp2_with fail
        go_roundg k1
        case measure => omega
        case rel => exact ⟨i + 1, v2, by simp, ⟨by omega⟩, HV2, HO2, HK2⟩
    · have e1 : decide ((i : Int) < (n : Int)) = false := decide_eq_false (by omega)
      go_wp2
      have hin : i = n := by omega
      subst hin
      refine bodyPost_end (results_none rfl _ _ _) rfl ⟨⟨_, rfl⟩, v', HV.out, HO'.out, HK.out⟩
end Go.Proofs.YtppeidopijnnlaaDoor.B
namespace Go.Proofs.YtppeidopijnnlaaDoor.B
open Go.RowKit Go.Proofs.YtppeidopijnnlaaDoorW.PrintWords Go.Proofs.YtppeidopijnnlaaDoorW.PrintMore Go.RF
set_option linter.unusedVariables false
set_option linter.unusedSimpArgs false
attribute [local go_sem] Oper.semAt_some
def TabAt (w : World) : Prop := w.cell? ⟨1, 0, none⟩ = some (.int .u8 0) ∧ w.cell? ⟨1, 1, none⟩ = some (.int .u8 1) ∧ w.cell? ⟨1, 3, none⟩ = some (.int .u8 2) ∧ w.cell? ⟨1, 7, none⟩ = some (.int .u8 3)
theorem TabAt.lt {w : World} (h : TabAt w) : 1 < w.heap.size := by
  have h1 := h.1
  unfold World.cell? at h1
  by_cases hs : 1 < w.heap.size
  · exact hs
  · have e : w.heap[1]? = none := Array.getElem?_eq_none (by omega)
    simp [e] at h1
theorem TabAt.keeps {S : Nat → Prop} {W W1 : World} (h : TabAt W) (k : Keeps S W W1) (hS : ¬ S 1) : TabAt W1 := ⟨k.cell h.1 hS, k.cell h.2.1 hS, k.cell h.2.2.1 hS, k.cell h.2.2.2 hS⟩
theorem TabAt.below {B : Nat} {W W1 : World} (h : TabAt W) (k : Below B W W1) (hB : 1 < B) : TabAt W1 := h.keeps (Keeps.of_below (S := fun k => ¬ k < B) k (fun k _ h => Classical.not_not.1 h)) (fun h => h hB)
set_option maxRecDepth 100000 in
theorem tz64_1 (w : World) (h : TabAt w) : Calls Tryd.prog 36 #[.int .u64 1] w fun e w' => e = .returned (.int .i64 0) ∧ w' = w := by
  have hc := h.1
  have ho : IntKind.u64.wrap (bits BinOp.and IntKind.u64 1 (IntKind.u64.wrap (-1)) * 285870213051353865) / 288230376151711744 = 0 := by decide +kernel
  go_enter Tryd.func36, Tryd.ntmps36
  go_wp2
  go_ret
  exact ⟨rfl, rfl⟩
set_option maxRecDepth 100000 in
theorem tz_1 (w : World) (h : TabAt w) : Calls Tryd.prog 27 #[.int .u64 1] w fun e w' => e = .returned (.int .i64 0) ∧ w' = w := by
  have H := Aside0.mk h
  clear h
  go_enter Tryd.func27, Tryd.ntmps27
  go_wp2_with (first | (go_at_call 36; refine (tz64_1 w H.out).mono ?_; rintro e w' ⟨rfl, rfl⟩))
  go_ret
  exact ⟨rfl, rfl⟩
set_option maxRecDepth 100000 in
theorem tz64_2 (w : World) (h : TabAt w) : Calls Tryd.prog 36 #[.int .u64 2] w fun e w' => e = .returned (.int .i64 1) ∧ w' = w := by
  have hc := h.2.1
  have ho : IntKind.u64.wrap (bits BinOp.and IntKind.u64 2 (IntKind.u64.wrap (-2)) * 285870213051353865) / 288230376151711744 = 1 := by decide +kernel
  go_enter Tryd.func36, Tryd.ntmps36
  go_wp2
  go_ret
  exact ⟨rfl, rfl⟩
set_option maxRecDepth 100000 in
theorem tz_2 (w : World) (h : TabAt w) : Calls Tryd.prog 27 #[.int .u64 2] w fun e w' => e = .returned (.int .i64 1) ∧ w' = w := by
  have H := Aside0.mk h
  clear h
  go_enter Tryd.func27, Tryd.ntmps27
  go_wp2_with (first | (go_at_call 36; refine (tz64_2 w H.out).mono ?_; rintro e w' ⟨rfl, rfl⟩))
  go_ret
  exact ⟨rfl, rfl⟩
set_option maxRecDepth 100000 in
theorem tz64_4 (w : World) (h : TabAt w) : Calls Tryd.prog 36 #[.int .u64 4] w fun e w' => e = .returned (.int .i64 2) ∧ w' = w := by
  have hc := h.2.2.1
  have ho : IntKind.u64.wrap (bits BinOp.and IntKind.u64 4 (IntKind.u64.wrap (-4)) * 285870213051353865) / 288230376151711744 = 3 := by decide +kernel
  go_enter Tryd.func36, Tryd.ntmps36
  go_wp2
  go_ret
  exact ⟨rfl, rfl⟩
set_option maxRecDepth 100000 in
theorem tz_4 (w : World) (h : TabAt w) : Calls Tryd.prog 27 #[.int .u64 4] w fun e w' => e = .returned (.int .i64 2) ∧ w' = w := by
  have H := Aside0.mk h
  clear h
  go_enter Tryd.func27, Tryd.ntmps27
  go_wp2_with (first | (go_at_call 36; refine (tz64_4 w H.out).mono ?_; rintro e w' ⟨rfl, rfl⟩))
  go_ret
  exact ⟨rfl, rfl⟩
set_option maxRecDepth 100000 in
theorem tz64_8 (w : World) (h : TabAt w) : Calls Tryd.prog 36 #[.int .u64 8] w fun e w' => e = .returned (.int .i64 3) ∧ w' = w := by
  have hc := h.2.2.2
  have ho : IntKind.u64.wrap (bits BinOp.and IntKind.u64 8 (IntKind.u64.wrap (-8)) * 285870213051353865) / 288230376151711744 = 7 := by decide +kernel
  go_enter Tryd.func36, Tryd.ntmps36
  go_wp2
  go_ret
  exact ⟨rfl, rfl⟩
set_option maxRecDepth 100000 in
theorem tz_8 (w : World) (h : TabAt w) : Calls Tryd.prog 27 #[.int .u64 8] w fun e w' => e = .returned (.int .i64 3) ∧ w' = w := by
  have H := Aside0.mk h
  clear h
  go_enter Tryd.func27, Tryd.ntmps27
  go_wp2_with (first | (go_at_call 36; refine (tz64_8 w H.out).mono ?_; rintro e w' ⟨rfl, rfl⟩))
  go_ret
  exact ⟨rfl, rfl⟩
def tzN (s : Int) : Int := if s = 1 then 0 else if s = 2 then 1 else if s = 4 then 2 else 3
theorem tz_calls (s : Int) (hs : s = 1 ∨ s = 2 ∨ s = 4 ∨ s = 8) (w : World) (h : TabAt w) : Calls Tryd.prog 27 #[.int .u64 s] w fun e w' => e = .returned (.int .i64 (tzN s)) ∧ w' = w := by
  rcases hs with rfl | rfl | rfl | rfl
  · exact tz_1 w h
  · exact tz_2 w h
  · exact tz_4 w h
  · exact tz_8 w h
end Go.Proofs.YtppeidopijnnlaaDoor.B
namespace Go.Proofs.YtppeidopijnnlaaDoor.B
open Go.RowKit Go.Proofs.YtppeidopijnnlaaDoorW.PrintWords Go.Proofs.YtppeidopijnnlaaDoorW.PrintLast Go.Proofs.YtppeidopijnnlaaDoorW.PrintMore
attribute [local go_sem] max2_int min2_int max_two min_two max_three min_three max_four min_four   -- for this text's walks alone
set_option linter.unusedVariables false
set_option linter.unusedSimpArgs false
theorem eqA23 (d : Nat) (w : World) (x0 y0 : Int) (x1 y1 : Int) (x2 y2 : Int) (x3 y3 : Int) (x4 y4 : Int) (x5 y5 : Int) (x6 y6 : Bool) (x7 y7 : Int) :
    (Op.equalIn (d + 2) 23 (.agg #[.int .u8 x0, .int .i64 x1, .int .i64 x2, .int .i64 x3, .int .i64 x4, .int .i64 x5, .bool x6, .int .i64 x7]) (.agg #[.int .u8 y0, .int .i64 y1, .int .i64 y2, .int .i64 y3, .int .i64 y4, .int .i64 y5, .bool y6, .int .i64 y7])).run Tryd.prog w = .ok (x0 == y0 && (x1 == y1 && (x2 == y2 && (x3 == y3 && (x4 == y4 && (x5 == y5 && (x6 == y6 && (x7 == y7)))))))) w := by
  refine eqA_of Tryd.underlying23 (by kernel_rfl) ?_
  refine eqf_cons (by rfl) (by go_simp; rfl) (by go_simp; rfl) (by go_simp) ?_
  refine eqf_cons (by rfl) (by go_simp; rfl) (by go_simp; rfl) (by go_simp) ?_
  refine eqf_cons (by rfl) (by go_simp; rfl) (by go_simp; rfl) (by go_simp) ?_
  refine eqf_cons (by rfl) (by go_simp; rfl) (by go_simp; rfl) (by go_simp) ?_
  refine eqf_cons (by rfl) (by go_simp; rfl) (by go_simp; rfl) (by go_simp) ?_
  refine eqf_cons (by rfl) (by go_simp; rfl) (by go_simp; rfl) (by go_simp) ?_
  refine eqf_cons (by rfl) (by go_simp; rfl) (by go_simp; rfl) (by go_simp) ?_
  exact eqf_last (by rfl) (by go_simp; rfl) (by go_simp; rfl) (by go_simp)
end Go.Proofs.YtppeidopijnnlaaDoor.B
