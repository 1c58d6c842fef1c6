/- A row of symbols of one's own: read, written; whole numbers that are no more than places. Swapping two parts of a row of symbols. Parts of a row swapped, turned: the plain laws. A part of a row of symbols is turned. Insertion: the plain laws. -/
import Derived.Test.YtgdhciilobnelaaZf9
import Derived.Laws.CopyRow
namespace Go.Proofs.Ytgdhciilobnelaa.B
open Go.RowKit Go.Lib Go.Proofs.YtgdhciilobnelaaW.PrintWords Go.Proofs.YtgdhciilobnelaaW.PrintLast Go.Proofs.YtgdhciilobnelaaW.PrintMore Go.RF
set_option linter.unusedVariables false
set_option linter.unusedSimpArgs false
def fl (xs : List S38) : List Value := xs.flatMap fun x => (encS x).toList
theorem fl_len : ∀ (xs : List S38), (fl xs).length = xs.length * 4
  | [] => rfl
  | x :: r => by
    have h4 : (encS x).toList.length = 4 := rfl
    have := fl_len r
    unfold fl at this ⊢
    rw [List.flatMap_cons, List.length_append, this, h4, List.length_cons]
    omega
theorem fl_append (a b : List S38) : fl (a ++ b) = fl a ++ fl b := by unfold fl; exact List.flatMap_append
theorem fl_cons (x : S38) (r : List S38) : fl (x :: r) = (encS x).toList ++ fl r := rfl
def SB (base g cap : Nat) (xs : List S38) (w : World) : Prop := w.ownsRow base 38 4 (.slice (some ⟨g, 0, none⟩) xs.length cap) xs.length (fl xs)
theorem SB.block {base g cap : Nat} {xs : List S38} {w : World} (h : SB base g cap xs w) : base ≤ g ∧ ∃ cur, w.heap[g]? = some (.cells cur 38 (0, 0)) ∧ xs.length ≤ cap ∧ cap ≤ maxLen ∧ cur.size = cap * 4 ∧ cur.toList.take (xs.length * 4) = fl xs := by
  obtain ⟨-, ⟨h', _⟩ | ⟨g', cap', cur, h', hb, hg, h1, h2, h3, h4⟩⟩ := h
  · simp at h'
  · simp only [Value.slice.injEq, Option.some.injEq, Addr.mk.injEq, and_true, true_and] at h'
    obtain ⟨rfl, rfl⟩ := h'
    exact ⟨hb, cur, hg, h1, h2, h3, h4⟩
theorem SB.mk' {base g cap : Nat} {xs : List S38} {w : World} {cur : Array Value} (hb : base ≤ g) (hg : w.heap[g]? = some (.cells cur 38 (0, 0))) (h1 : xs.length ≤ cap) (h2 : cap ≤ maxLen) (h3 : cur.size = cap * 4) (h4 : cur.toList.take (xs.length * 4) = fl xs) : SB base g cap xs w :=
  ⟨fl_len xs, .inr ⟨g, cap, cur, rfl, hb, hg, h1, h2, h3, h4⟩⟩
theorem SB.lt {base g cap : Nat} {xs : List S38} {w : World} (h : SB base g cap xs w) : g < w.heap.size := by
  obtain ⟨_, cur, hg, _⟩ := h.block
  exact (Array.getElem?_eq_some_iff.1 hg).1
theorem SB.keeps {base g cap : Nat} {xs : List S38} {w w' : World} {S : Nat → Prop} (h : SB base g cap xs w) (hk : Keeps S w w') (hS : ¬ S g) : SB base g cap xs w' := by
  obtain ⟨hb, cur, hg, h1, h2, h3, h4⟩ := h.block
  exact SB.mk' hb (hk.at_ hg hS) h1 h2 h3 h4
theorem SB.drew {base g cap : Nat} {xs : List S38} {w : World} (h : SB base g cap xs w) : SB base g cap xs { w with drawn := w.drawn + 1 } := h
theorem SB.mono {base base' g cap : Nat} {xs : List S38} {w : World} (h : SB base g cap xs w) (hb : base' ≤ base) : SB base' g cap xs w := by
  obtain ⟨hb', cur, hg, h1, h2, h3, h4⟩ := h.block
  exact SB.mk' (Nat.le_trans hb hb') hg h1 h2 h3 h4
theorem reps38s {W : World} {base : Nat} {ok : Nat → Prop} : ∀ (l : List S38) (ps : List S38) (cs : List Value), Reps (k38.M W base ok) k38.sz ps cs → Reps (k38.M W base ok) k38.sz (ps ++ l) (cs ++ fl l)
  | [], ps, cs, h => by simpa [fl] using h
  | x :: r, ps, cs, h => by
    have := reps38s r (ps ++ [x]) (cs ++ (encS x).toList) (h.snoc (k38_mkM W base ok x) rfl)
    simpa [List.append_assoc, fl_cons] using this
theorem SB.to_R {base g cap : Nat} {xs : List S38} {w : World} (h : SB base g cap xs w) : Kd.R k38 38 w base (fun _ => True) (.slice (some ⟨g, 0, none⟩) xs.length cap) xs := by
  refine ⟨fun _ _ => trivial, _, h, ?_⟩
  have := reps38s (W := w) (base := base) (ok := fun k => (fun x => True) k ∧ some k ≠ (Value.slice (some ⟨g, 0, none⟩) xs.length cap).ownBlock) xs [] [] (Reps.none _ _)
  simpa using this
theorem reps_fl {W : World} {base : Nat} {ok : Nat → Prop} {ps : List S38} {cs : List Value} (h : Reps (k38.M W base ok) k38.sz ps cs) : cs = fl ps := by
  obtain ⟨hl, hr⟩ := h
  have hs : k38.sz = 4 := rfl
  rw [hs] at hl hr
  induction ps generalizing cs with
  | nil => exact List.eq_nil_of_length_eq_zero (by simpa using hl)
  | cons x r ih =>
    have h0 := k38_openM (hr 0 x rfl)
    simp only [Nat.zero_mul, List.drop_zero] at h0
    have h1 := ih (cs := cs.drop 4) (by rw [List.length_drop, hl, List.length_cons]; omega) (fun j p hj => by
      have := hr (j + 1) p (by simpa using hj)
      rw [show (j + 1) * 4 = 4 + j * 4 by omega, ← List.drop_drop] at this
      exact this)
    rw [fl_cons, ← h1, ← List.take_append_drop 4 cs, h0]
    rfl
theorem SB.of_R {base : Nat} {ok : Nat → Prop} {v : Value} {xs : List S38} {w : World} (h : Kd.R k38 38 w base ok v xs) (hn : 0 < xs.length) : ∃ g cap, v = .slice (some ⟨g, 0, none⟩) xs.length cap ∧ SB base g cap xs w := by
  obtain ⟨-, inner, ho, hr⟩ := h
  obtain rfl := reps_fl hr
  obtain ⟨hl, ⟨-, h0⟩ | ⟨g, cap, cur, rfl, hg, hh, h1, h2, h3, h4⟩⟩ := ho
  · omega
  · exact ⟨g, cap, rfl, SB.mk' hg hh h1 h2 h3 h4⟩
theorem SB.cell {base g cap : Nat} {xs : List S38} {w : World} (h : SB base g cap xs w) {i : Nat} (hi : i < xs.length) (k : Nat) (hk : k < 4) : w.cell? ⟨g, i * 4 + k, none⟩ = (encS (xs.getD i z38)).toList[k]? := by
  obtain ⟨hb, cur, hg, h1, h2, h3, h4⟩ := h.block
  obtain ⟨e, el⟩ := part_at hi
  have hcur : cur[i * 4 + k]? = (fl xs)[i * 4 + k]? := by
    rw [← h4, List.getElem?_take, if_pos (by omega)]
    simp
  rw [bC_ hg, hcur]
  conv => lhs; rw [e, fl_append, fl_cons]
  rw [List.getElem?_append_right (by rw [fl_len, el]; omega), fl_len, el, show i * 4 + k - i * 4 = k by omega, List.getElem?_append_left (by show k < 4; exact hk)]
theorem size38 (w : World) : (sizeOf 38).run Try.prog w = .ok 4 w := by kernel_rfl
theorem run_storeOp {P : Program} {o : Oper} {ρ : Operand → Value} {t : TypeId} {x y : Operand} {a v : Value} {w w' : World} (ho : o.op = .store t x y) (hx : ρ x = a) (hy : ρ y = v) (h : (Instr.storeAt t a v).run P w = .ok () w') : (execOp ρ o).run P w = .ok .skip w' := by
  unfold execOp
  simp only [ho, hx, hy, Sem.run_bind, h, Result.andThen_ok, Sem.run_pure]
theorem SB.load {base g cap : Nat} {xs : List S38} {w : World} (h : SB base g cap xs w) {o : Oper} {ρ : Operand → Value} {x : Operand} {i : Nat} (hi : i < xs.length) (ho : o.op = .load 38 x) (hx : ρ x = .pointer (some ⟨g, i * 4, none⟩)) :
    (execOp ρ o).run Try.prog w = .ok (.value (.agg (encS (xs.getD i z38)))) w := by
  refine run_load ho hx ?_
  have hsz := size38 w
  have ha : (isAgg 38).run Try.prog w = .ok true w := by unfold isAgg; rw [Sem.run_bind, run_underlying Try.underlying38]; rfl
  have hc : (loadCells ⟨g, i * 4, none⟩ 4).run Try.prog w = .ok (encS (xs.getD i z38)) w := by
    have := run_loadCells_list (P := Try.prog) w ⟨g, i * 4, none⟩ (encS (xs.getD i z38)).toList (fun j v hv => by
      have hj : j < 4 := by
        have := (List.getElem?_eq_some_iff.1 hv).1
        exact this
      have hadd : (⟨g, i * 4, none⟩ : Addr).add j = ⟨g, i * 4 + j, none⟩ := by unfold Addr.add; split <;> simp_all
      rw [hadd, h.cell hi j hj, hv])
    exact this
  unfold Instr.loadAt Instr.sureAddr loadVar
  simp only [Sem.run_bind, Sem.run_pure, Result.andThen_ok, ha, hsz, hc, if_true]
theorem SB.store {base g cap : Nat} {xs : List S38} {w : World} (h : SB base g cap xs w) {o : Oper} {ρ : Operand → Value} {x y : Operand} {i : Nat} {s : S38} (hi : i < xs.length) (ho : o.op = .store 38 x y) (hx : ρ x = .pointer (some ⟨g, i * 4, none⟩)) (hy : ρ y = .agg (encS s)) :
    ∃ w', (execOp ρ o).run Try.prog w = .ok .skip w' ∧ SB base g cap (xs.set i s) w' ∧ Keeps (fun k => k = g) w w' := by
  obtain ⟨hb, cur, hg, h1, h2, h3, h4⟩ := h.block
  have hsz := size38 w
  have hst := run_storeCells_at (P := Try.prog) g (i * 4) 38 (encS s).toList 0 cur w hg (by show i * 4 + 0 + 4 ≤ cur.size; omega) (by intro v hv; simp [encS] at hv; rcases hv with rfl | rfl | rfl | rfl <;> rfl)
  refine ⟨w.setRow g (cur.toList.take (i * 4 + 0) ++ (encS s).toList ++ cur.toList.drop (i * 4 + 0 + (encS s).toList.length)).toArray, run_storeOp ho hx hy ?_, ?_, ?_⟩
  · unfold Instr.storeAt Instr.sureAddr storeVar
    simp only [Sem.run_bind, Sem.run_pure, Result.andThen_ok, hsz]
    exact hst
  · refine SB.mk' hb (setRow_heap w g cur _ 38 (0, 0) hg) (by rw [List.length_set]; exact h1) h2 ?_ ?_
    · show (cur.toList.take (i * 4 + 0) ++ (encS s).toList ++ cur.toList.drop (i * 4 + 0 + 4)).length = cap * 4
      have h4' : (encS s).toList.length = 4 := rfl
      simp only [List.length_append, List.length_take, List.length_drop, h4', Array.length_toList]
      omega
    · have h4' : (encS s).toList.length = 4 := rfl
      obtain ⟨e, el⟩ := part_at hi
      have hset : xs.set i s = xs.take i ++ s :: xs.drop (i + 1) := by
        rw [List.set_eq_take_append_cons_drop, if_pos hi]
      rw [hset, fl_append, fl_cons, List.length_append, el, List.length_cons, List.length_drop]
      have t1 : fl (xs.take i) = cur.toList.take (i * 4) := by
        have : (fl xs).take (i * 4) = fl (xs.take i) := by
          conv => lhs; rw [e, fl_append]
          rw [List.take_append_of_le_length (by rw [fl_len, el]; exact Nat.le_refl _), List.take_of_length_le (by rw [fl_len, el]; exact Nat.le_refl _)]
        rw [← this, ← h4, List.take_take, Nat.min_eq_left (by omega)]
      have t2 : fl (xs.drop (i + 1)) = (cur.toList.take (xs.length * 4)).drop (i * 4 + 4) := by
        rw [h4]
        have hx := fl_append (xs.take (i + 1)) (xs.drop (i + 1))
        rw [List.take_append_drop] at hx
        have hl : (fl (xs.take (i + 1))).length = i * 4 + 4 := by rw [fl_len, List.length_take]; omega
        rw [hx, ← hl, List.drop_left]
      rw [t1, t2, h4']
      simp only [Nat.add_zero]
      have hcl : cur.toList.length = cap * 4 := by simpa using h3
      rw [List.append_assoc, List.take_append, List.length_take, Nat.min_eq_left (by omega), List.take_take, Nat.min_eq_right (by omega), List.take_append, h4', show (i + (xs.length - (i + 1) + 1)) * 4 - i * 4 - 4 = xs.length * 4 - (i * 4 + 4) by omega,
        List.take_of_length_le (l := (encS s).toList) (by rw [h4']; omega), List.drop_take]
  · have q := below_setRow (Below.refl 0 w) (Nat.zero_le g) (cur.toList.take (i * 4 + 0) ++ (encS s).toList ++ cur.toList.drop (i * 4 + 0 + (encS s).toList.length)).toArray
    exact keeps_row w g _
theorem SB.index {g n cap i : Nat} {w : World} {o : Oper} {ρ : Operand → Value} {x y : Operand} (hi : i < n) (ho : o.op = .indexAddr 33 x y) (hx : ρ x = .slice (some ⟨g, 0, none⟩) n cap) (hy : ρ y = .int .i64 (i : Int)) :
    (execOp ρ o).run Try.prog w = .ok (.value (.pointer (some ⟨g, i * 4, none⟩))) w := by
  refine run_indexAddr ho hx hy ?_
  have hsz := size38 w
  have hin : (0 : Int) ≤ (i : Int) ∧ (i : Int) < (n : Int) := ⟨by omega, by omega⟩
  unfold Instr.indexAt
  simp only [asIntOf, Sem.run_bind, Sem.run_pure, Result.andThen_ok, run_underlying Try.underlying33, hin, and_self, if_true, Int.toNat_natCast, hsz, addz]
section
variable {o : Oper} {ρ : Operand → Value} {x y : Operand} {a b : Nat} {w : World}
theorem n_add (hl : a + b < 1000000000) (ho : o.op = .binOp .add 3 x y 3) (hx : ρ x = .int .i64 (a : Int)) (hy : ρ y = .int .i64 (b : Int)) : (execOp ρ o).run Try.prog w = .ok (.value (.int .i64 ((a + b : Nat) : Int))) w := by
  refine run_bin ho hx hy (by rfl) ?_
  have e : IntKind.i64.wrap ((a : Int) + (b : Int)) = ((a + b : Nat) : Int) := by rw [IntKind.wrap_i64]; omega
  simp [binOp, Op.intArith, e]
theorem n_sub (hl : b ≤ a) (ha : a < 1000000000) (ho : o.op = .binOp .sub 3 x y 3) (hx : ρ x = .int .i64 (a : Int)) (hy : ρ y = .int .i64 (b : Int)) : (execOp ρ o).run Try.prog w = .ok (.value (.int .i64 ((a - b : Nat) : Int))) w := by
  refine run_bin ho hx hy (by rfl) ?_
  have e : IntKind.i64.wrap ((a : Int) - (b : Int)) = ((a - b : Nat) : Int) := by rw [IntKind.wrap_i64]; omega
  simp [binOp, Op.intArith, e]
theorem n_mul (hl : a * b < 1000000000) (ho : o.op = .binOp .mul 3 x y 3) (hx : ρ x = .int .i64 (a : Int)) (hy : ρ y = .int .i64 (b : Int)) : (execOp ρ o).run Try.prog w = .ok (.value (.int .i64 ((a * b : Nat) : Int))) w := by
  refine run_bin ho hx hy (by rfl) ?_
  have e : IntKind.i64.wrap ((a : Int) * (b : Int)) = ((a * b : Nat) : Int) := by rw [← Int.natCast_mul, IntKind.wrap_i64]; omega
  simp [binOp, Op.intArith, e]
theorem n_lss {r : Bool} (h : decide (a < b) = r) (ho : o.op = .binOp .lss 3 x y 3) (hx : ρ x = .int .i64 (a : Int)) (hy : ρ y = .int .i64 (b : Int)) : (execOp ρ o).run Try.prog w = .ok (.value (.bool r)) w := by
  refine run_bin ho hx hy (by rfl) ?_
  subst h
  simp [binOp, Op.intCmp, bne]
theorem n_gtr {r : Bool} (h : decide (b < a) = r) (ho : o.op = .binOp .gtr 3 x y 3) (hx : ρ x = .int .i64 (a : Int)) (hy : ρ y = .int .i64 (b : Int)) : (execOp ρ o).run Try.prog w = .ok (.value (.bool r)) w := by
  refine run_bin ho hx hy (by rfl) ?_
  subst h
  simp [binOp, Op.intCmp, bne]
theorem n_leq {r : Bool} (h : decide (a ≤ b) = r) (ho : o.op = .binOp .leq 3 x y 3) (hx : ρ x = .int .i64 (a : Int)) (hy : ρ y = .int .i64 (b : Int)) : (execOp ρ o).run Try.prog w = .ok (.value (.bool r)) w := by
  refine run_bin ho hx hy (by rfl) ?_
  subst h
  simp [binOp, Op.intCmp, bne]
theorem n_eql {r : Bool} (h : decide (a = b) = r) (ho : o.op = .binOp .eql 3 x y 3) (hx : ρ x = .int .i64 (a : Int)) (hy : ρ y = .int .i64 (b : Int)) : (execOp ρ o).run Try.prog w = .ok (.value (.bool r)) w := by
  refine run_bin ho hx hy (by rfl) ?_
  subst h
  simp [binOp, Op.intCmp, bne]
  rw [Bool.eq_iff_iff]
  simp
  omega
theorem n_neq {r : Bool} (h : decide (a = b) = !r) (ho : o.op = .binOp .neq 3 x y 3) (hx : ρ x = .int .i64 (a : Int)) (hy : ρ y = .int .i64 (b : Int)) : (execOp ρ o).run Try.prog w = .ok (.value (.bool r)) w := by
  refine run_bin ho hx hy (by rfl) ?_
  have h : r = !decide ((a : Int) = (b : Int)) := by
    have e : ((a : Int) = (b : Int)) ↔ a = b := by omega
    simp only [e, h, Bool.not_not]
  subst h
  simp [binOp, Op.intCmp, bne]
  rw [Bool.eq_iff_iff]
  simp
theorem n_conv {t u : TypeId} (hl : a < 1000000000) (ht : Try.prog.underlying t = some (.int .i64)) (hu : Try.prog.underlying u = some (.int .u64)) (ho : o.op = .convert t u x) (hx : ρ x = .int .i64 (a : Int)) : (execOp ρ o).run Try.prog w = .ok (.value (.int .u64 (a : Int))) w := by
  have e : IntKind.u64.wrap (a : Int) = (a : Int) := wrapU (by omega) (by omega)
  unfold execOp
  simp only [ho, hx]
  go_simp
theorem n_shr (hl : a < 1000000000) (ho : o.op = .binOp .shr 81 x y 81) (hx : ρ x = .int .u64 (a : Int)) (hy : ρ y = .int .u64 1) : (execOp ρ o).run Try.prog w = .ok (.value (.int .u64 ((a / 2 : Nat) : Int))) w := by
  refine run_bin ho hx hy (by rfl) ?_
  have e : IntKind.u64.wrap ((a / 2 : Nat) : Int) = ((a / 2 : Nat) : Int) := wrapU (by omega) (by omega)
  have hu := Try.underlying81
  simp [binOp, Op.shift]
  go_simp
  exact Int.fdiv_eq_ediv_of_nonneg _ (by decide)
theorem n_back {t u : TypeId} (hl : a < 1000000000) (ht : Try.prog.underlying t = some (.int .u64)) (hu : Try.prog.underlying u = some (.int .i64)) (ho : o.op = .convert t u x) (hx : ρ x = .int .u64 (a : Int)) : (execOp ρ o).run Try.prog w = .ok (.value (.int .i64 (a : Int))) w := by
  have e : IntKind.i64.wrap (a : Int) = (a : Int) := by rw [IntKind.wrap_i64]; omega
  unfold execOp
  simp only [ho, hx]
  go_simp
end
def SW (w0 : World) (base g cap : Nat) (xs : List S38) (w : World) : Prop := Keeps (fun k => k = g) w0 w ∧ SB base g cap xs w
theorem SW.start {base g cap : Nat} {xs : List S38} {w : World} (h : SB base g cap xs w) : SW w base g cap xs w := ⟨Keeps.refl _ _, h⟩
theorem SW.drew {w0 : World} {base g cap : Nat} {xs : List S38} {w : World} (h : SW w0 base g cap xs w) : SW w0 base g cap xs { w with drawn := w.drawn + 1 } := ⟨h.1.drew, h.2⟩
theorem SW.below {w0 : World} {base g cap : Nat} {xs : List S38} {w w' : World} (h : SW w0 base g cap xs w) (hb : Below w.heap.size w w') : SW w0 base g cap xs w' := by
  have hk : Keeps (fun _ => False) w w' := Keeps.of_below hb (fun k hk _ => hk)
  exact ⟨h.1.trans (hk.mono (fun _ _ e => e.elim)), h.2.keeps hk (fun e => e)⟩
theorem SW.next {w0 : World} {base g cap : Nat} {xs ys : List S38} {w w' : World} (h : SW w0 base g cap xs w) (hk : Keeps (fun k => k = g) w w') (hs : SB base g cap ys w') : SW w0 base g cap ys w' := ⟨h.1.trans hk, hs⟩
def swS (xs : List S38) (i j : Nat) (b1 b2 : Bool) : List S38 := bif b2 then (bif b1 then xs.set i (xs.getD j z38) else xs).set j (xs.getD i z38) else (bif b1 then xs.set i (xs.getD j z38) else xs)
theorem swS_len (xs : List S38) (i j : Nat) (b1 b2 : Bool) : (swS xs i j b1 b2).length = xs.length := by cases b1 <;> cases b2 <;> simp [swS]
theorem SW.one {w0 : World} {base g cap : Nat} {xs : List S38} {i j : Nat} {b2 : Bool} {w : World} {o : Oper} {ρ : Operand → Value} {x y : Operand} (hij : i ≠ j) (hi : i < xs.length) (h : SW w0 base g cap (swS xs i j false b2) w) (ho : o.op = .store 38 x y) (hx : ρ x = .pointer (some ⟨g, i * 4, none⟩)) (hy : ρ y = .agg (encS (xs.getD j z38))) :
    ∃ w', ((execOp ρ o).run Try.prog w = .ok (.value undef) w' ∨ ((execOp ρ o).run Try.prog w = .ok .skip w' ∧ undef = undef)) ∧ SW w0 base g cap (swS xs i j true b2) w' := by
  obtain ⟨w', hr, hs, hk⟩ := h.2.store (by rw [swS_len]; exact hi) ho hx hy
  refine ⟨w', .inr ⟨hr, rfl⟩, h.next hk ?_⟩
  have e : (swS xs i j false b2).set i (xs.getD j z38) = swS xs i j true b2 := by
    cases b2
    · rfl
    · show (xs.set j _).set i _ = (xs.set i _).set j _
      rw [List.set_comm _ _ hij]
  rw [e] at hs
  exact hs
theorem SW.two {w0 : World} {base g cap : Nat} {xs : List S38} {i j : Nat} {b1 : Bool} {w : World} {o : Oper} {ρ : Operand → Value} {x y : Operand} (hj : j < xs.length) (h : SW w0 base g cap (swS xs i j b1 false) w) (ho : o.op = .store 38 x y) (hx : ρ x = .pointer (some ⟨g, j * 4, none⟩)) (hy : ρ y = .agg (encS (xs.getD i z38))) :
    ∃ w', ((execOp ρ o).run Try.prog w = .ok (.value undef) w' ∨ ((execOp ρ o).run Try.prog w = .ok .skip w' ∧ undef = undef)) ∧ SW w0 base g cap (swS xs i j b1 true) w' := by
  obtain ⟨w', hr, hs, hk⟩ := h.2.store (by rw [swS_len]; exact hj) ho hx hy
  exact ⟨w', .inr ⟨hr, rfl⟩, h.next hk hs⟩
def swN (xs : List S38) (a b : Nat) : Nat → List S38
  | 0 => xs
  | k + 1 => swp (swN xs a b k) (a + k) (b + k)
theorem swN_len (xs : List S38) (a b : Nat) : ∀ k, (swN xs a b k).length = xs.length
  | 0 => rfl
  | k + 1 => by rw [swN, swp_len, swN_len xs a b k]
end Go.Proofs.Ytgdhciilobnelaa.B
namespace Go.Proofs.Ytgdhciilobnelaa.B
open Go.RowKit Go.Lib Go.Proofs.YtgdhciilobnelaaW.PrintWords Go.Proofs.YtgdhciilobnelaaW.PrintLast Go.Proofs.YtgdhciilobnelaaW.PrintMore Go.RF
set_option linter.unusedVariables false
set_option linter.unusedSimpArgs false
attribute [local go_sem] max2_int min2_int max_two min_two
set_option maxHeartbeats 8000000 in
set_option maxRecDepth 100000 in
theorem swapRange_calls (base g cap n a b k : Nat) (xs : List S38) (w0 : World) (h : SB base g cap xs w0) (hn : xs.length = n) (hab : a + k ≤ b) (hb : b + k ≤ n) (hm : n ≤ 1000000) :
    Calls Try.prog 45 #[.slice (some ⟨g, 0, none⟩) n cap, .int .i64 (a : Int), .int .i64 (b : Int), .int .i64 (k : Int), .func (.func 30) #[] #[]] w0 fun e w' => e = .returned (.tuple #[]) ∧ SW w0 base g cap (swN xs a b k) w' := by
  have H := Aside0.mk h
  have HN := Aside0.mk hn
  clear h hn
  go_enter Try.func45, Try.ntmps45
  go_upto_region 0 with (fail)
  refine RS.wp_textE [(10, .int .i64 ((0 : Nat) : Int))] (fun f w => w0 = w) (by kernel_rfl) (by kernel_rfl) (fun f hf => ?_) ?_ ?_
  · rfl
  · exact ⟨RS.StepE.pure 10 (by kernel_rfl) rfl (fun w => by kernel_rfl) (fun f w h => h), trivial⟩
  rintro f wx hf rfl
  clear hf
  (try simp only [RS.sets, List.setIfInBounds_toArray, List.set_cons_zero, List.set_cons_succ])
  go_wp2_with fail
  go_loopw [10] (fun t wr => ∃ i : Nat, i ≤ k ∧ t = .int .i64 (i : Int) ∧ SW w0 base g cap (swN xs a b i) wr) (fun t _ => ((k : Int) - intOf t).toNat)
  case atStart => exact ⟨0, Nat.zero_le _, rfl, SW.start H.out⟩
  case round =>
    obtain ⟨i, hi, rfl, hs⟩ := hrel
    have HS := Aside0.mk hs
    obtain ⟨ys, hy⟩ : ∃ ys, swN xs a b i = ys := ⟨_, rfl⟩
    rw [hy] at HS
    have HL := Aside0.mk (show ys.length = n by rw [← hy, swN_len]; exact HN.out)
    have HY := Aside0.mk hy
    clear hs hy
    by_cases hin : i < k
    · go_upto_region 1 with (fail)
      refine RS.wp_textE [(11, .int .i64 ((i : Nat) : Int)), (12, .int .i64 ((k : Nat) : Int)), (13, .bool true)] (fun f w => SW w0 base g cap (ys) w) (by kernel_rfl) (by kernel_rfl) (fun f hf => ?_) ?_ ?_
      · exact HS.out
      · exact ⟨RS.StepE.pure 11 (by kernel_rfl) rfl (fun w => by kernel_rfl) (fun f w h => h),
          RS.StepE.pure 12 (by kernel_rfl) rfl (fun w => by kernel_rfl) (fun f w h => h),
          RS.StepE.load 13 (.bool true) (by kernel_rfl) (by kernel_rfl) rfl (fun f w h => h) (fun f w p1 p2 h => n_lss (a := i) (b := k) (r := true) (decide_eq_true (show i < k from by omega)) rfl (by kernel_rfl) (by kernel_rfl)), trivial⟩
      rintro f w1 hf hs
      have H1 := Aside0.mk hs
      clear hf hs
      (try simp only [RS.sets, List.setIfInBounds_toArray, List.set_cons_zero, List.set_cons_succ])
      go_upto_region 3 with (fail)
      refine RS.wp_events (by kernel_rfl) [(16, .slice (some ⟨g, 0, none⟩) n cap), (17, .int .i64 ((a : Nat) : Int)), (18, .int .i64 ((i : Nat) : Int)), (19, .int .i64 ((a + i : Nat) : Int)), (20, .slice (some ⟨g, 0, none⟩) n cap), (21, .int .i64 ((b : Nat) : Int)), (22, .int .i64 ((i : Nat) : Int)), (23, .int .i64 ((b + i : Nat) : Int)), (24, .slice (some ⟨g, 0, none⟩) n cap), (25, .int .i64 ((b : Nat) : Int)), (26, .int .i64 ((i : Nat) : Int)), (27, .int .i64 ((b + i : Nat) : Int)), (28, .pointer (some ⟨g, (b + i) * 4, none⟩)), (29, .agg (encS ((ys).getD (b + i) z38))), (30, .slice (some ⟨g, 0, none⟩) n cap), (31, .int .i64 ((a : Nat) : Int)), (32, .int .i64 ((i : Nat) : Int)), (33, .int .i64 ((a + i : Nat) : Int)), (34, .pointer (some ⟨g, (a + i) * 4, none⟩)), (35, .agg (encS ((ys).getD (a + i) z38))), (36, .pointer (some ⟨g, (a + i) * 4, none⟩)), (37, .pointer (some ⟨g, (b + i) * 4, none⟩))] (fun f w => SW w0 base g cap (swS (ys) (a + i) (b + i) (f 21) (f 23)) w) (by kernel_rfl) (by kernel_rfl) (fun f hf => ?_) ?_ ?_
      · simp only [hf 21 (by decide), hf 23 (by decide)]
        exact H1.out.drew
      · exact ⟨RS.StepE.pure 16 (by kernel_rfl) rfl (fun w => by kernel_rfl) (fun f w h => h),
          RS.StepE.pure 17 (by kernel_rfl) rfl (fun w => by kernel_rfl) (fun f w h => h),
          RS.StepE.pure 18 (by kernel_rfl) rfl (fun w => by kernel_rfl) (fun f w h => h),
          RS.StepE.load 19 (.int .i64 ((a + i : Nat) : Int)) (by kernel_rfl) (by kernel_rfl) rfl (fun f w h => h) (fun f w p1 p2 h => n_add (by omega) rfl (by kernel_rfl) (by kernel_rfl)),
          RS.StepE.pure 20 (by kernel_rfl) rfl (fun w => by kernel_rfl) (fun f w h => h),
          RS.StepE.pure 21 (by kernel_rfl) rfl (fun w => by kernel_rfl) (fun f w h => h),
          RS.StepE.pure 22 (by kernel_rfl) rfl (fun w => by kernel_rfl) (fun f w h => h),
          RS.StepE.load 23 (.int .i64 ((b + i : Nat) : Int)) (by kernel_rfl) (by kernel_rfl) rfl (fun f w h => h) (fun f w p1 p2 h => n_add (by omega) rfl (by kernel_rfl) (by kernel_rfl)),
          RS.StepE.pure 24 (by kernel_rfl) rfl (fun w => by kernel_rfl) (fun f w h => h),
          RS.StepE.pure 25 (by kernel_rfl) rfl (fun w => by kernel_rfl) (fun f w h => h),
          RS.StepE.pure 26 (by kernel_rfl) rfl (fun w => by kernel_rfl) (fun f w h => h),
          RS.StepE.load 27 (.int .i64 ((b + i : Nat) : Int)) (by kernel_rfl) (by kernel_rfl) rfl (fun f w h => h) (fun f w p1 p2 h => n_add (by omega) rfl (by kernel_rfl) (by kernel_rfl)),
          RS.StepE.load 28 (.pointer (some ⟨g, (b + i) * 4, none⟩)) (by kernel_rfl) (by kernel_rfl) rfl (fun f w h => h) (fun f w p1 p2 h => SB.index (n := n) (cap := cap) (i := b + i) (by omega) rfl (by kernel_rfl) (by kernel_rfl)),
          RS.StepE.load 29 (.agg (encS ((ys).getD (b + i) z38))) (by kernel_rfl) (by kernel_rfl) rfl (fun f w h => h) (fun f w p1 p2 h => (show SB _ g _ (ys) w from by have e1 : f 21 = false := p2 21 (by kernel_rfl) (by decide); have e2 : f 23 = false := p2 23 (by kernel_rfl) (by decide); have h' := h.2; simp only [e1, e2] at h'; exact h').load (i := b + i) (by have := HL.out; omega) rfl (by kernel_rfl)),
          RS.StepE.pure 30 (by kernel_rfl) rfl (fun w => by kernel_rfl) (fun f w h => h),
          RS.StepE.pure 31 (by kernel_rfl) rfl (fun w => by kernel_rfl) (fun f w h => h),
          RS.StepE.pure 32 (by kernel_rfl) rfl (fun w => by kernel_rfl) (fun f w h => h),
          RS.StepE.load 33 (.int .i64 ((a + i : Nat) : Int)) (by kernel_rfl) (by kernel_rfl) rfl (fun f w h => h) (fun f w p1 p2 h => n_add (by omega) rfl (by kernel_rfl) (by kernel_rfl)),
          RS.StepE.load 34 (.pointer (some ⟨g, (a + i) * 4, none⟩)) (by kernel_rfl) (by kernel_rfl) rfl (fun f w h => h) (fun f w p1 p2 h => SB.index (n := n) (cap := cap) (i := a + i) (by omega) rfl (by kernel_rfl) (by kernel_rfl)),
          RS.StepE.load 35 (.agg (encS ((ys).getD (a + i) z38))) (by kernel_rfl) (by kernel_rfl) rfl (fun f w h => h) (fun f w p1 p2 h => (show SB _ g _ (ys) w from by have e1 : f 21 = false := p2 21 (by kernel_rfl) (by decide); have e2 : f 23 = false := p2 23 (by kernel_rfl) (by decide); have h' := h.2; simp only [e1, e2] at h'; exact h').load (i := a + i) (by have := HL.out; omega) rfl (by kernel_rfl)),
          RS.StepE.load 36 (.pointer (some ⟨g, (a + i) * 4, none⟩)) (by kernel_rfl) (by kernel_rfl) rfl (fun f w h => h) (fun f w p1 p2 h => SB.index (n := n) (cap := cap) (i := a + i) (by omega) rfl (by kernel_rfl) (by kernel_rfl)),
          RS.StepE.event (undef) (by intro d hd; cases hd) (by kernel_rfl) (fun f w h0 p1 p2 h => by
            have h0 : f 21 = false := h0
            simp only [h0] at h
            exact SW.one (by omega) (by have := HL.out; omega) h rfl (by kernel_rfl) (by kernel_rfl)),
          RS.StepE.load 37 (.pointer (some ⟨g, (b + i) * 4, none⟩)) (by kernel_rfl) (by kernel_rfl) rfl (fun f w h => h) (fun f w p1 p2 h => SB.index (n := n) (cap := cap) (i := b + i) (by omega) rfl (by kernel_rfl) (by kernel_rfl)),
          RS.StepE.event (undef) (by intro d hd; cases hd) (by kernel_rfl) (fun f w h0 p1 p2 h => by
            have h0 : f 23 = false := h0
            simp only [h0] at h
            exact SW.two (by have := HL.out; omega) h rfl (by kernel_rfl) (by kernel_rfl)), trivial⟩
      rintro f w2 hf hs
      simp only [hf] at hs
      have H2 := Aside0.mk (show SW w0 base g cap (swp (ys) (a + i) (b + i)) w2 from hs)
      clear hf hs
      (try simp only [RS.sets, List.setIfInBounds_toArray, List.set_cons_zero, List.set_cons_succ])
      go_upto_region 2 with (fail)
      refine wp_region_lit ?_
      refine RS.seq1 (by kernel_rfl) (.int .i64 ((i : Nat) : Int)) (by kernel_rfl) ?_
      refine RS.seq1 (by kernel_rfl) (.int .i64 ((i + 1 : Nat) : Int)) (n_add (by omega) rfl (by kernel_rfl) (by kernel_rfl)) ?_
      refine RS.seq1 (by kernel_rfl) (.int .i64 ((i + 1 : Nat) : Int)) (by kernel_rfl) ?_
      (try simp only [Act.put, List.setIfInBounds_toArray, List.set_cons_zero, List.set_cons_succ])
      go_wp2_with fail
      exact ⟨⟨i + 1, by omega, rfl, by rw [swN, HY.out]; exact H2.out⟩, by simp [intOf]; omega⟩
    · have hie : i = k := by omega
      subst hie
      go_upto_region 1 with (fail)
      refine RS.wp_textE [(11, .int .i64 ((i : Nat) : Int)), (12, .int .i64 ((i : Nat) : Int)), (13, .bool false)] (fun f w => SW w0 base g cap (ys) w) (by kernel_rfl) (by kernel_rfl) (fun f hf => ?_) ?_ ?_
      · exact HS.out
      · exact ⟨RS.StepE.pure 11 (by kernel_rfl) rfl (fun w => by kernel_rfl) (fun f w h => h),
          RS.StepE.pure 12 (by kernel_rfl) rfl (fun w => by kernel_rfl) (fun f w h => h),
          RS.StepE.load 13 (.bool false) (by kernel_rfl) (by kernel_rfl) rfl (fun f w h => h) (fun f w p1 p2 h => n_lss (a := i) (b := i) (r := false) (decide_eq_false (show ¬ (i < i) from by omega)) rfl (by kernel_rfl) (by kernel_rfl)), trivial⟩
      rintro f w1 hf hs
      have H1 := Aside0.mk hs
      clear hf hs
      (try simp only [RS.sets, List.setIfInBounds_toArray, List.set_cons_zero, List.set_cons_succ])
      go_wp2_with fail
      go_end0
      exact ⟨rfl, by rw [HY.out]; exact H1.out⟩
end Go.Proofs.Ytgdhciilobnelaa.B
namespace Go.Proofs.Ytgdhciilobnelaa.B
open Go.RowKit
set_option linter.unusedVariables false
set_option linter.unusedSimpArgs false
theorem swN_parts (P A M B S : List S38) (hk : A.length = B.length) : ∀ j, j ≤ A.length →
    swN (P ++ (A ++ (M ++ (B ++ S)))) P.length (P.length + A.length + M.length) j = P ++ (B.take j ++ (A.drop j ++ (M ++ (A.take j ++ (B.drop j ++ S)))))
  | 0, _ => by simp [swN]
  | j + 1, hj => by
    rw [swN, swN_parts P A M B S hk j (by omega)]
    have ea : A.drop j = A.getD j z38 :: A.drop (j + 1) := by
      rw [List.drop_eq_getElem_cons (by omega), List.getD_eq_getElem?_getD, List.getElem?_eq_getElem (by omega)]; rfl
    have eb : B.drop j = B.getD j z38 :: B.drop (j + 1) := by
      rw [List.drop_eq_getElem_cons (by omega), List.getD_eq_getElem?_getD, List.getElem?_eq_getElem (by omega)]; rfl
    have ta : A.take (j + 1) = A.take j ++ [A.getD j z38] := by
      rw [List.take_succ_eq_append_getElem (by omega), List.getD_eq_getElem?_getD, List.getElem?_eq_getElem (by omega)]; rfl
    have tb : B.take (j + 1) = B.take j ++ [B.getD j z38] := by
      rw [List.take_succ_eq_append_getElem (by omega), List.getD_eq_getElem?_getD, List.getElem?_eq_getElem (by omega)]; rfl
    have e := swp_at (P ++ B.take j) (B.drop (j + 1) ++ S) (A.drop (j + 1) ++ (M ++ A.take j)) (A.getD j z38) (B.getD j z38)
    have l1 : (P ++ B.take j).length = P.length + j := by rw [List.length_append, List.length_take]; omega
    have l2 : (A.drop (j + 1) ++ (M ++ A.take j)).length = A.length - (j + 1) + (M.length + j) := by rw [List.length_append, List.length_append, List.length_drop, List.length_take]; omega
    rw [l1, l2, show P.length + j + 1 + (A.length - (j + 1) + (M.length + j)) = P.length + A.length + M.length + j by omega] at e
    rw [ea, eb, ta, tb]
    simp only [List.append_assoc, List.cons_append, List.nil_append] at e ⊢
    exact e
theorem swN_all (P A M B S : List S38) (hk : A.length = B.length) : swN (P ++ (A ++ (M ++ (B ++ S)))) P.length (P.length + A.length + M.length) A.length = P ++ (B ++ (M ++ (A ++ S))) := by
  rw [swN_parts P A M B S hk A.length (Nat.le_refl _), List.take_of_length_le (by omega), List.drop_length, List.take_length, List.drop_of_length_le (by omega)]
  simp
def RotI (P A B S : List S38) (m i j : Nat) (cur : List S38) : Prop := ∃ F1 A' B' F2, cur = P ++ (F1 ++ (A' ++ (B' ++ (F2 ++ S)))) ∧ A'.length = i ∧ B'.length = j ∧ P.length + F1.length + i = m ∧ F1 ++ (B' ++ (A' ++ F2)) = B ++ A ∧ 0 < i ∧ 0 < j
theorem RotI.start (P A B S : List S38) (ha : 0 < A.length) (hb : 0 < B.length) : RotI P A B S (P.length + A.length) A.length B.length (P ++ (A ++ (B ++ S))) :=
  ⟨[], A, B, [], by simp, rfl, rfl, by simp, by simp, ha, hb⟩
theorem RotI.gt {P A B S : List S38} {m i j : Nat} {cur : List S38} (h : RotI P A B S m i j cur) (hij : j < i) : RotI P A B S m (i - j) j (swN cur (m - i) m j) := by
  obtain ⟨F1, A', B', F2, rfl, ha, hb, hm, he, hi, hj⟩ := h
  have h1 : (A'.take j).length = j := by rw [List.length_take]; omega
  have h2 : (A'.drop j).length = i - j := by rw [List.length_drop]; omega
  have e := swN_all (P ++ F1) (A'.take j) (A'.drop j) B' (F2 ++ S) (by rw [h1, hb])
  rw [h1, h2, List.length_append, show P.length + F1.length + j + (i - j) = m by omega, show P.length + F1.length = m - i by omega] at e
  have hcur : P ++ (F1 ++ (A' ++ (B' ++ (F2 ++ S)))) = P ++ F1 ++ (A'.take j ++ (A'.drop j ++ (B' ++ (F2 ++ S)))) := by
    rw [← List.append_assoc (A'.take j), List.take_append_drop, List.append_assoc]
  rw [hcur, e]
  refine ⟨F1 ++ B', A'.drop j, A'.take j, F2, by simp only [List.append_assoc], h2, h1, by rw [List.length_append]; omega, ?_, by omega, hj⟩
  rw [← he]
  conv => rhs; rw [← List.take_append_drop j A']
  simp only [List.append_assoc]
theorem RotI.lt {P A B S : List S38} {m i j : Nat} {cur : List S38} (h : RotI P A B S m i j cur) (hij : i < j) : RotI P A B S m i (j - i) (swN cur (m - i) (m + j - i) i) := by
  obtain ⟨F1, A', B', F2, rfl, ha, hb, hm, he, hi, hj⟩ := h
  have h1 : (B'.take (j - i)).length = j - i := by rw [List.length_take]; omega
  have h2 : (B'.drop (j - i)).length = i := by rw [List.length_drop]; omega
  have e := swN_all (P ++ F1) A' (B'.take (j - i)) (B'.drop (j - i)) (F2 ++ S) (by rw [h2, ha])
  rw [h1, ha, List.length_append, show P.length + F1.length + i + (j - i) = m + j - i by omega, show P.length + F1.length = m - i by omega] at e
  have hcur : P ++ (F1 ++ (A' ++ (B' ++ (F2 ++ S)))) = P ++ F1 ++ (A' ++ (B'.take (j - i) ++ (B'.drop (j - i) ++ (F2 ++ S)))) := by
    rw [← List.append_assoc (B'.take (j - i)), List.take_append_drop, List.append_assoc]
  rw [hcur, e]
  refine ⟨F1, B'.drop (j - i), B'.take (j - i), A' ++ F2, by simp only [List.append_assoc], h2, h1, by omega, ?_, hi, by omega⟩
  rw [← he]
  conv => rhs; rw [← List.take_append_drop (j - i) B']
  simp only [List.append_assoc]
theorem RotI.eq {P A B S : List S38} {m i : Nat} {cur : List S38} (h : RotI P A B S m i i cur) : swN cur (m - i) m i = P ++ (B ++ (A ++ S)) := by
  obtain ⟨F1, A', B', F2, rfl, ha, hb, hm, he, hi, hj⟩ := h
  have e := swN_all (P ++ F1) A' [] B' (F2 ++ S) (by rw [ha, hb])
  rw [ha, List.length_append, List.length_nil, show P.length + F1.length + i + 0 = m by omega, show P.length + F1.length = m - i by omega] at e
  rw [show P ++ (F1 ++ (A' ++ (B' ++ (F2 ++ S)))) = P ++ F1 ++ (A' ++ ([] ++ (B' ++ (F2 ++ S)))) by simp, e]
  have := congrArg (fun z => P ++ (z ++ S)) he
  simpa using this
theorem RotI.pos {P A B S : List S38} {m i j : Nat} {cur : List S38} (h : RotI P A B S m i j cur) : 0 < i ∧ 0 < j ∧ i ≤ m ∧ m + j ≤ cur.length := by
  obtain ⟨F1, A', B', F2, rfl, ha, hb, hm, he, hi, hj⟩ := h
  simp only [List.length_append]
  omega
end Go.Proofs.Ytgdhciilobnelaa.B
namespace Go.Proofs.Ytgdhciilobnelaa.B
open Go.RowKit Go.Lib Go.Proofs.YtgdhciilobnelaaW.PrintWords Go.Proofs.YtgdhciilobnelaaW.PrintLast Go.Proofs.YtgdhciilobnelaaW.PrintMore Go.RF
set_option linter.unusedVariables false
set_option linter.unusedSimpArgs false
attribute [local go_sem] max2_int min2_int max_two min_two
set_option maxHeartbeats 8000000 in
set_option maxRecDepth 100000 in
theorem rotate_calls (base g cap n a m b : Nat) (P A B S : List S38) (w0 : World) (h : SB base g cap (P ++ (A ++ (B ++ S))) w0) (hn : (P ++ (A ++ (B ++ S))).length = n) (ha : P.length = a) (hmm : P.length + A.length = m) (hb : P.length + A.length + B.length = b) (hA : 0 < A.length) (hB : 0 < B.length) (hm : n ≤ 1000000) :
    Calls Try.prog 44 #[.slice (some ⟨g, 0, none⟩) n cap, .int .i64 (a : Int), .int .i64 (m : Int), .int .i64 (b : Int), .func (.func 30) #[] #[]] w0 fun e w' => e = .returned (.tuple #[]) ∧ SW w0 base g cap (P ++ (B ++ (A ++ S))) w' := by
  have H := Aside0.mk h
  have hbn : b ≤ n := by simp only [List.length_append] at hn; omega
  have HN := Aside0.mk hn
  have HR := Aside0.mk (RotI.start P A B S hA hB)
  rw [hmm] at HR
  have e1 : A.length = m - a := by omega
  have e2 : B.length = b - m := by omega
  have h1 : a < m := by omega
  have h2 : m < b := by omega
  rw [e1, e2] at HR
  clear h hn ha hmm hb hA hB e1 e2
  go_enter Try.func44, Try.ntmps44
  go_upto_region 0 with (fail)
  refine RS.wp_textE [(12, .int .i64 ((m : Nat) : Int)), (13, .int .i64 ((a : Nat) : Int)), (14, .int .i64 ((m - a : Nat) : Int)), (10, .int .i64 ((m - a : Nat) : Int))] (fun f w => w0 = w) (by kernel_rfl) (by kernel_rfl) (fun f hf => ?_) ?_ ?_
  · rfl
  · exact ⟨RS.StepE.pure 12 (by kernel_rfl) rfl (fun w => by kernel_rfl) (fun f w h => h),
      RS.StepE.pure 13 (by kernel_rfl) rfl (fun w => by kernel_rfl) (fun f w h => h),
      RS.StepE.load 14 (.int .i64 ((m - a : Nat) : Int)) (by kernel_rfl) (by kernel_rfl) rfl (fun f w h => h) (fun f w p1 p2 h => n_sub (by omega) (by omega) rfl (by kernel_rfl) (by kernel_rfl)),
      RS.StepE.pure 10 (by kernel_rfl) rfl (fun w => by kernel_rfl) (fun f w h => h), trivial⟩
  rintro f wx hf rfl
  clear hf
  (try simp only [RS.sets, List.setIfInBounds_toArray, List.set_cons_zero, List.set_cons_succ])
  go_upto_region 1 with (fail)
  refine RS.wp_textE [(15, .int .i64 ((b : Nat) : Int)), (16, .int .i64 ((m : Nat) : Int)), (17, .int .i64 ((b - m : Nat) : Int)), (11, .int .i64 ((b - m : Nat) : Int))] (fun f w => w0 = w) (by kernel_rfl) (by kernel_rfl) (fun f hf => ?_) ?_ ?_
  · rfl
  · exact ⟨RS.StepE.pure 15 (by kernel_rfl) rfl (fun w => by kernel_rfl) (fun f w h => h),
      RS.StepE.pure 16 (by kernel_rfl) rfl (fun w => by kernel_rfl) (fun f w h => h),
      RS.StepE.load 17 (.int .i64 ((b - m : Nat) : Int)) (by kernel_rfl) (by kernel_rfl) rfl (fun f w h => h) (fun f w p1 p2 h => n_sub (by omega) (by omega) rfl (by kernel_rfl) (by kernel_rfl)),
      RS.StepE.pure 11 (by kernel_rfl) rfl (fun w => by kernel_rfl) (fun f w h => h), trivial⟩
  rintro f wx hf rfl
  clear hf
  (try simp only [RS.sets, List.setIfInBounds_toArray, List.set_cons_zero, List.set_cons_succ])
  go_upto_region 2 with (fail)
  have hi : m - a ≤ m := by omega
  go_loopw [10, 11] (fun t u wr => ∃ i j : Nat, t = .int .i64 (i : Int) ∧ u = .int .i64 (j : Int) ∧ ∃ cur, RotI P A B S m i j cur ∧ cur.length = n ∧ SW w0 base g cap cur wr) (fun t u _ => (intOf t + intOf u).toNat)
  case atStart => exact ⟨m - a, b - m, rfl, rfl, _, HR.out, HN.out, SW.start H.out⟩
  case round =>
    obtain ⟨i, j, rfl, rfl, cur, hr, hl, hs⟩ := hrel
    have HS := Aside0.mk hs
    have HR := Aside0.mk hr
    have HL := Aside0.mk hl
    obtain ⟨hi, hj, him, hjm⟩ := hr.pos
    rw [hl] at hjm
    clear hs hr hl
    by_cases hne : i = j
    · subst hne
      go_upto_region 2 with (fail)
      refine RS.wp_textE [(18, .int .i64 ((i : Nat) : Int)), (19, .int .i64 ((i : Nat) : Int)), (20, .bool false)] (fun f w => wr = w) (by kernel_rfl) (by kernel_rfl) (fun f hf => ?_) ?_ ?_
      · rfl
      · exact ⟨RS.StepE.pure 18 (by kernel_rfl) rfl (fun w => by kernel_rfl) (fun f w h => h),
          RS.StepE.pure 19 (by kernel_rfl) rfl (fun w => by kernel_rfl) (fun f w h => h),
          RS.StepE.load 20 (.bool false) (by kernel_rfl) (by kernel_rfl) rfl (fun f w h => h) (fun f w p1 p2 h => n_neq (a := i) (b := i) (r := false) (decide_eq_true (show i = i from by omega)) rfl (by kernel_rfl) (by kernel_rfl)), trivial⟩
      rintro f wx hf rfl
      clear hf
      (try simp only [RS.sets, List.setIfInBounds_toArray, List.set_cons_zero, List.set_cons_succ])
      go_upto_region 8 with (fail)
      refine RS.wp_textE [(50, .slice (some ⟨g, 0, none⟩) n cap), (51, .int .i64 ((m : Nat) : Int)), (52, .int .i64 ((i : Nat) : Int)), (53, .int .i64 ((m - i : Nat) : Int)), (54, .int .i64 ((m : Nat) : Int)), (55, .int .i64 ((i : Nat) : Int)), (56, .func (.func 30) #[] #[]), (57, .tuple #[])] (fun f w => SW w0 base g cap (bif f 7 then swN cur (m - i) m i else cur) w) (by kernel_rfl) (by kernel_rfl) (fun f hf => ?_) ?_ ?_
      · simp only [hf 7 (by decide), cond_false]
        exact HS.out
      · exact ⟨RS.StepE.pure 50 (by kernel_rfl) rfl (fun w => by kernel_rfl) (fun f w h => h),
          RS.StepE.pure 51 (by kernel_rfl) rfl (fun w => by kernel_rfl) (fun f w h => h),
          RS.StepE.pure 52 (by kernel_rfl) rfl (fun w => by kernel_rfl) (fun f w h => h),
          RS.StepE.load 53 (.int .i64 ((m - i : Nat) : Int)) (by kernel_rfl) (by kernel_rfl) rfl (fun f w h => h) (fun f w p1 p2 h => n_sub (by omega) (by omega) rfl (by kernel_rfl) (by kernel_rfl)),
          RS.StepE.pure 54 (by kernel_rfl) rfl (fun w => by kernel_rfl) (fun f w h => h),
          RS.StepE.pure 55 (by kernel_rfl) rfl (fun w => by kernel_rfl) (fun f w h => h),
          RS.StepE.pure 56 (by kernel_rfl) rfl (fun w => by kernel_rfl) (fun f w h => h),
          RS.StepE.call 57 45 #[.slice (some ⟨g, 0, none⟩) n cap, .int .i64 ((m - i : Nat) : Int), .int .i64 ((m : Nat) : Int), .int .i64 ((i : Nat) : Int), .func (.func 30) #[] #[]] (.tuple #[]) (by kernel_rfl) (by kernel_rfl) rfl (fun w => by kernel_rfl) (fun f w h0 p1 p2 h => by
            have h0 : f 7 = false := h0
            simp only [h0, cond_false] at h
            refine (swapRange_calls base g cap n (m - i) (m) (i) cur w h.2 HL.out (by omega) (by omega) hm).mono ?_
            rintro e w' ⟨rfl, h'⟩
            exact ⟨rfl, h.1.trans h'.1, h'.2⟩), trivial⟩
      rintro f w2 hf hs
      simp only [hf, cond_true] at hs
      have H2 := Aside0.mk hs
      clear hf hs
      (try simp only [RS.sets, List.setIfInBounds_toArray, List.set_cons_zero, List.set_cons_succ])
      go_wp2_with fail
      go_end0
      exact ⟨rfl, by rw [← HR.out.eq]; exact H2.out⟩
    · go_upto_region 2 with (fail)
      refine RS.wp_textE [(18, .int .i64 ((i : Nat) : Int)), (19, .int .i64 ((j : Nat) : Int)), (20, .bool true)] (fun f w => wr = w) (by kernel_rfl) (by kernel_rfl) (fun f hf => ?_) ?_ ?_
      · rfl
      · exact ⟨RS.StepE.pure 18 (by kernel_rfl) rfl (fun w => by kernel_rfl) (fun f w h => h),
          RS.StepE.pure 19 (by kernel_rfl) rfl (fun w => by kernel_rfl) (fun f w h => h),
          RS.StepE.load 20 (.bool true) (by kernel_rfl) (by kernel_rfl) rfl (fun f w h => h) (fun f w p1 p2 h => n_neq (a := i) (b := j) (r := true) (decide_eq_false (show ¬ (i = j) from by omega)) rfl (by kernel_rfl) (by kernel_rfl)), trivial⟩
      rintro f wx hf rfl
      clear hf
      (try simp only [RS.sets, List.setIfInBounds_toArray, List.set_cons_zero, List.set_cons_succ])
      by_cases hgt : j < i
      · go_upto_region 3 with (fail)
        refine RS.wp_textE [(21, .int .i64 ((i : Nat) : Int)), (22, .int .i64 ((j : Nat) : Int)), (23, .bool true)] (fun f w => wr = w) (by kernel_rfl) (by kernel_rfl) (fun f hf => ?_) ?_ ?_
        · rfl
        · exact ⟨RS.StepE.pure 21 (by kernel_rfl) rfl (fun w => by kernel_rfl) (fun f w h => h),
            RS.StepE.pure 22 (by kernel_rfl) rfl (fun w => by kernel_rfl) (fun f w h => h),
            RS.StepE.load 23 (.bool true) (by kernel_rfl) (by kernel_rfl) rfl (fun f w h => h) (fun f w p1 p2 h => n_gtr (a := i) (b := j) (r := true) (decide_eq_true (show j < i from by omega)) rfl (by kernel_rfl) (by kernel_rfl)), trivial⟩
        rintro f wx hf rfl
        clear hf
        (try simp only [RS.sets, List.setIfInBounds_toArray, List.set_cons_zero, List.set_cons_succ])
        go_upto_region 4 with (fail)
        refine RS.wp_textE [(24, .slice (some ⟨g, 0, none⟩) n cap), (25, .int .i64 ((m : Nat) : Int)), (26, .int .i64 ((i : Nat) : Int)), (27, .int .i64 ((m - i : Nat) : Int)), (28, .int .i64 ((m : Nat) : Int)), (29, .int .i64 ((j : Nat) : Int)), (30, .func (.func 30) #[] #[]), (31, .tuple #[])] (fun f w => SW w0 base g cap (bif f 7 then swN cur (m - i) m j else cur) w) (by kernel_rfl) (by kernel_rfl) (fun f hf => ?_) ?_ ?_
        · simp only [hf 7 (by decide), cond_false]
          exact HS.out
        · exact ⟨RS.StepE.pure 24 (by kernel_rfl) rfl (fun w => by kernel_rfl) (fun f w h => h),
            RS.StepE.pure 25 (by kernel_rfl) rfl (fun w => by kernel_rfl) (fun f w h => h),
            RS.StepE.pure 26 (by kernel_rfl) rfl (fun w => by kernel_rfl) (fun f w h => h),
            RS.StepE.load 27 (.int .i64 ((m - i : Nat) : Int)) (by kernel_rfl) (by kernel_rfl) rfl (fun f w h => h) (fun f w p1 p2 h => n_sub (by omega) (by omega) rfl (by kernel_rfl) (by kernel_rfl)),
            RS.StepE.pure 28 (by kernel_rfl) rfl (fun w => by kernel_rfl) (fun f w h => h),
            RS.StepE.pure 29 (by kernel_rfl) rfl (fun w => by kernel_rfl) (fun f w h => h),
            RS.StepE.pure 30 (by kernel_rfl) rfl (fun w => by kernel_rfl) (fun f w h => h),
            RS.StepE.call 31 45 #[.slice (some ⟨g, 0, none⟩) n cap, .int .i64 ((m - i : Nat) : Int), .int .i64 ((m : Nat) : Int), .int .i64 ((j : Nat) : Int), .func (.func 30) #[] #[]] (.tuple #[]) (by kernel_rfl) (by kernel_rfl) rfl (fun w => by kernel_rfl) (fun f w h0 p1 p2 h => by
              have h0 : f 7 = false := h0
              simp only [h0, cond_false] at h
              refine (swapRange_calls base g cap n (m - i) (m) (j) cur w h.2 HL.out (by omega) (by omega) hm).mono ?_
              rintro e w' ⟨rfl, h'⟩
              exact ⟨rfl, h.1.trans h'.1, h'.2⟩), trivial⟩
        rintro f w2 hf hs
        simp only [hf, cond_true] at hs
        have H2 := Aside0.mk hs
        clear hf hs
        (try simp only [RS.sets, List.setIfInBounds_toArray, List.set_cons_zero, List.set_cons_succ])
        go_upto_region 5 with (fail)
        refine wp_region_lit ?_
        refine RS.seq1 (by kernel_rfl) (.int .i64 ((i : Nat) : Int)) (by kernel_rfl) ?_
        refine RS.seq1 (by kernel_rfl) (.int .i64 ((j : Nat) : Int)) (by kernel_rfl) ?_
        refine RS.seq1 (by kernel_rfl) (.int .i64 ((i - j : Nat) : Int)) (n_sub (by omega) (by omega) rfl (by kernel_rfl) (by kernel_rfl)) ?_
        refine RS.seq1 (by kernel_rfl) (.int .i64 ((i - j : Nat) : Int)) (by kernel_rfl) ?_
        (try simp only [Act.put, List.setIfInBounds_toArray, List.set_cons_zero, List.set_cons_succ])
        go_wp2_with fail
        exact ⟨⟨i - j, j, rfl, rfl, _, HR.out.gt hgt, by rw [swN_len]; exact HL.out, H2.out⟩, by simp [intOf]; omega⟩
      · have hlt : i < j := by omega
        go_upto_region 3 with (fail)
        refine RS.wp_textE [(21, .int .i64 ((i : Nat) : Int)), (22, .int .i64 ((j : Nat) : Int)), (23, .bool false)] (fun f w => wr = w) (by kernel_rfl) (by kernel_rfl) (fun f hf => ?_) ?_ ?_
        · rfl
        · exact ⟨RS.StepE.pure 21 (by kernel_rfl) rfl (fun w => by kernel_rfl) (fun f w h => h),
            RS.StepE.pure 22 (by kernel_rfl) rfl (fun w => by kernel_rfl) (fun f w h => h),
            RS.StepE.load 23 (.bool false) (by kernel_rfl) (by kernel_rfl) rfl (fun f w h => h) (fun f w p1 p2 h => n_gtr (a := i) (b := j) (r := false) (decide_eq_false (show ¬ (j < i) from by omega)) rfl (by kernel_rfl) (by kernel_rfl)), trivial⟩
        rintro f wx hf rfl
        clear hf
        (try simp only [RS.sets, List.setIfInBounds_toArray, List.set_cons_zero, List.set_cons_succ])
        go_upto_region 6 with (fail)
        refine RS.wp_textE [(35, .slice (some ⟨g, 0, none⟩) n cap), (36, .int .i64 ((m : Nat) : Int)), (37, .int .i64 ((i : Nat) : Int)), (38, .int .i64 ((m - i : Nat) : Int)), (39, .int .i64 ((m : Nat) : Int)), (40, .int .i64 ((j : Nat) : Int)), (41, .int .i64 ((m + j : Nat) : Int)), (42, .int .i64 ((i : Nat) : Int)), (43, .int .i64 (((m + j) - i : Nat) : Int)), (44, .int .i64 ((i : Nat) : Int)), (45, .func (.func 30) #[] #[]), (46, .tuple #[])] (fun f w => SW w0 base g cap (bif f 11 then swN cur (m - i) (m + j - i) i else cur) w) (by kernel_rfl) (by kernel_rfl) (fun f hf => ?_) ?_ ?_
        · simp only [hf 11 (by decide), cond_false]
          exact HS.out
        · exact ⟨RS.StepE.pure 35 (by kernel_rfl) rfl (fun w => by kernel_rfl) (fun f w h => h),
            RS.StepE.pure 36 (by kernel_rfl) rfl (fun w => by kernel_rfl) (fun f w h => h),
            RS.StepE.pure 37 (by kernel_rfl) rfl (fun w => by kernel_rfl) (fun f w h => h),
            RS.StepE.load 38 (.int .i64 ((m - i : Nat) : Int)) (by kernel_rfl) (by kernel_rfl) rfl (fun f w h => h) (fun f w p1 p2 h => n_sub (by omega) (by omega) rfl (by kernel_rfl) (by kernel_rfl)),
            RS.StepE.pure 39 (by kernel_rfl) rfl (fun w => by kernel_rfl) (fun f w h => h),
            RS.StepE.pure 40 (by kernel_rfl) rfl (fun w => by kernel_rfl) (fun f w h => h),
            RS.StepE.load 41 (.int .i64 ((m + j : Nat) : Int)) (by kernel_rfl) (by kernel_rfl) rfl (fun f w h => h) (fun f w p1 p2 h => n_add (by omega) rfl (by kernel_rfl) (by kernel_rfl)),
            RS.StepE.pure 42 (by kernel_rfl) rfl (fun w => by kernel_rfl) (fun f w h => h),
            RS.StepE.load 43 (.int .i64 (((m + j) - i : Nat) : Int)) (by kernel_rfl) (by kernel_rfl) rfl (fun f w h => h) (fun f w p1 p2 h => n_sub (by omega) (by omega) rfl (by kernel_rfl) (by kernel_rfl)),
            RS.StepE.pure 44 (by kernel_rfl) rfl (fun w => by kernel_rfl) (fun f w h => h),
            RS.StepE.pure 45 (by kernel_rfl) rfl (fun w => by kernel_rfl) (fun f w h => h),
            RS.StepE.call 46 45 #[.slice (some ⟨g, 0, none⟩) n cap, .int .i64 ((m - i : Nat) : Int), .int .i64 ((m + j - i : Nat) : Int), .int .i64 ((i : Nat) : Int), .func (.func 30) #[] #[]] (.tuple #[]) (by kernel_rfl) (by kernel_rfl) rfl (fun w => by kernel_rfl) (fun f w h0 p1 p2 h => by
              have h0 : f 11 = false := h0
              simp only [h0, cond_false] at h
              refine (swapRange_calls base g cap n (m - i) (m + j - i) (i) cur w h.2 HL.out (by omega) (by omega) hm).mono ?_
              rintro e w' ⟨rfl, h'⟩
              exact ⟨rfl, h.1.trans h'.1, h'.2⟩), trivial⟩
        rintro f w2 hf hs
        simp only [hf, cond_true] at hs
        have H2 := Aside0.mk hs
        clear hf hs
        (try simp only [RS.sets, List.setIfInBounds_toArray, List.set_cons_zero, List.set_cons_succ])
        go_upto_region 7 with (fail)
        refine wp_region_lit ?_
        refine RS.seq1 (by kernel_rfl) (.int .i64 ((j : Nat) : Int)) (by kernel_rfl) ?_
        refine RS.seq1 (by kernel_rfl) (.int .i64 ((i : Nat) : Int)) (by kernel_rfl) ?_
        refine RS.seq1 (by kernel_rfl) (.int .i64 ((j - i : Nat) : Int)) (n_sub (by omega) (by omega) rfl (by kernel_rfl) (by kernel_rfl)) ?_
        refine RS.seq1 (by kernel_rfl) (.int .i64 ((j - i : Nat) : Int)) (by kernel_rfl) ?_
        (try simp only [Act.put, List.setIfInBounds_toArray, List.set_cons_zero, List.set_cons_succ])
        go_wp2_with fail
        exact ⟨⟨i, j - i, rfl, rfl, _, HR.out.lt hlt, by rw [swN_len]; exact HL.out, H2.out⟩, by simp [intOf]; omega⟩
end Go.Proofs.Ytgdhciilobnelaa.B
namespace Go.Proofs.Ytgdhciilobnelaa.B
open Go.RowKit
set_option linter.unusedVariables false
set_option linter.unusedSimpArgs false
theorem i_lss {o : Oper} {ρ : Operand → Value} {x y : Operand} {a b : Int} {w : World} {r : Bool} (h : decide (a < b) = r) (ho : o.op = .binOp .lss 3 x y 3) (hx : ρ x = .int .i64 a) (hy : ρ y = .int .i64 b) : (execOp ρ o).run Try.prog w = .ok (.value (.bool r)) w := by
  refine run_bin ho hx hy (by rfl) ?_
  subst h
  simp [binOp, Op.intCmp, bne]
theorem cmpI_neg {x y : Int} : decide (cmpI x y < 0) = decide (x < y) := by
  unfold cmpI
  by_cases h : x < y
  · simp [h]
  · by_cases h2 : y < x <;> simp [h, h2]
theorem cmp_yes {x y : Int} (h : x < y) : decide (cmpI x y < 0) = true := by rw [cmpI_neg]; exact decide_eq_true h
theorem cmp_no {x y : Int} (h : ¬ x < y) : decide (cmpI x y < 0) = false := by rw [cmpI_neg]; exact decide_eq_false h
def InsI (P Y R : List S38) (x : S38) (j : Nat) (cur : List S38) : Prop := ∃ Y1 Y2, Y = Y1 ++ Y2 ∧ cur = P ++ (Y1 ++ x :: (Y2 ++ R)) ∧ P.length + Y1.length = j ∧ ∀ y ∈ Y2, x.f1 < y.f1
theorem InsI.start (P Y R : List S38) (x : S38) : InsI P Y R x (P.length + Y.length) (P ++ (Y ++ x :: R)) := ⟨Y, [], by simp, by simp, rfl, by simp⟩
theorem InsI.at_ {P Y R : List S38} {x : S38} {j : Nat} {cur : List S38} (h : InsI P Y R x j cur) : cur.getD j z38 = x ∧ j < cur.length ∧ P.length ≤ j ∧ j ≤ P.length + Y.length := by
  obtain ⟨Y1, Y2, rfl, rfl, hj, hy⟩ := h
  refine ⟨?_, by simp only [List.length_append, List.length_cons]; omega, by omega, by rw [List.length_append]; omega⟩
  have := get_mid (P ++ Y1) (Y2 ++ R) x
  rw [List.length_append, hj, List.append_assoc] at this
  exact this
theorem snoc_of {l : List S38} (h : 0 < l.length) : ∃ r y, l = r ++ [y] := ⟨l.dropLast, l.getLast (by intro e; simp [e] at h), (List.dropLast_concat_getLast _).symm⟩
theorem InsI.step {P Y R : List S38} {x : S38} {j : Nat} {cur : List S38} (h : InsI P Y R x j cur) (hj : P.length < j) (hlt : x.f1 < (cur.getD (j - 1) z38).f1) : InsI P Y R x (j - 1) (swp cur j (j - 1)) := by
  obtain ⟨Y1, Y2, rfl, rfl, hj', hy⟩ := h
  obtain ⟨Z, y, rfl⟩ := snoc_of (l := Y1) (by omega)
  have hz : P.length + Z.length + 1 = j := by rw [List.length_append] at hj'; simpa [Nat.add_assoc] using hj'
  have e0 : P ++ (Z ++ [y] ++ x :: (Y2 ++ R)) = (P ++ Z) ++ y :: x :: (Y2 ++ R) := by simp
  have hl : (P ++ Z).length = j - 1 := by rw [List.length_append]; omega
  rw [e0] at hlt ⊢
  have hg := get_mid (P ++ Z) (x :: (Y2 ++ R)) y
  rw [hl] at hg
  rw [hg] at hlt
  have es := swp_next (P ++ Z) (Y2 ++ R) y x
  rw [hl, show j - 1 + 1 = j by omega] at es
  rw [swp_comm _ (show j ≠ j - 1 by omega), es]
  refine ⟨Z, y :: Y2, by simp, by simp, by omega, fun z hz' => ?_⟩
  rcases List.mem_cons.1 hz' with rfl | hz'
  · exact hlt
  · exact hy z hz'
theorem InsI.done {P Y R X0 : List S38} {x : S38} {j : Nat} {cur : List S38} (h : InsI P Y R x j cur) (hs : SS X0 Y) (he : j = P.length ∨ ¬ x.f1 < (cur.getD (j - 1) z38).f1) : ∃ Z, SS (X0 ++ [x]) Z ∧ cur = P ++ (Z ++ R) := by
  obtain ⟨Y1, Y2, rfl, rfl, hj, hy⟩ := h
  refine ⟨Y1 ++ x :: Y2, ⟨?_, ?_⟩, by simp⟩
  · have h1 := srt_left hs.1
    have h2 := srt_right hs.1
    refine srt_append h1 (List.pairwise_cons.2 ⟨fun y hy' => Int.le_of_lt (hy y hy'), h2⟩) ?_
    intro u hu v hv
    rcases List.mem_cons.1 hv with rfl | hv
    · rcases he with he | he
      · have : Y1 = [] := List.eq_nil_of_length_eq_zero (by omega)
        subst this
        cases hu
      · obtain ⟨Z, y, rfl⟩ := snoc_of (l := Y1) (List.length_pos_of_mem hu)
        have hz : P.length + Z.length + 1 = j := by rw [List.length_append] at hj; simpa [Nat.add_assoc] using hj
        have hl : (P ++ Z).length = j - 1 := by rw [List.length_append]; omega
        have hg := get_mid (P ++ Z) (v :: (Y2 ++ R)) y
        rw [hl] at hg
        rw [show P ++ (Z ++ [y] ++ v :: (Y2 ++ R)) = (P ++ Z) ++ y :: v :: (Y2 ++ R) by simp, hg] at he
        have := srt_last h1 u hu
        omega
    · exact srt_cross hs.1 u hu v hv
  · intro k
    have e := hs.2 k
    have e2 := fk_swap (A := Y2) (B := [x]) (by intro a ha b hb; rw [List.mem_singleton.1 hb]; exact hy a ha) k
    rw [show Y1 ++ x :: Y2 = Y1 ++ ([x] ++ Y2) from rfl]
    simp only [List.filter_append] at e e2 ⊢
    rw [e2, ← List.append_assoc, e]
theorem SS.short {X : List S38} (h : X.length ≤ 1) : SS X X := by
  refine ⟨?_, fun _ => rfl⟩
  match X, h with
  | [], _ => exact List.Pairwise.nil
  | [x], _ => exact List.pairwise_singleton _ _
theorem take_next {X : List S38} {k : Nat} (h : k < X.length) : X.take (k + 1) = X.take k ++ [X.getD k z38] ∧ X.drop k = X.getD k z38 :: X.drop (k + 1) := by
  have e : X.getD k z38 = X[k] := by rw [List.getD_eq_getElem?_getD, List.getElem?_eq_getElem h]; rfl
  rw [e]
  exact ⟨List.take_succ_eq_append_getElem h, List.drop_eq_getElem_cons h⟩
end Go.Proofs.Ytgdhciilobnelaa.B
