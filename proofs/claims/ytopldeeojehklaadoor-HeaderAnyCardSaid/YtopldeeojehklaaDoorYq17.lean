/- HeaderAny walked. -/
import Derived.Test.YtopldeeojehklaaDoorYq15
import Derived.Test.YtopldeeojehklaaDoorYq16
namespace Go.Proofs.YtopldeeojehklaaDoor.B
open Go.RowKit Go.Lib Go.Proofs.YtopldeeojehklaaDoorW.PrintWords Go.Proofs.YtopldeeojehklaaDoorW.PrintLast Go.Proofs.YtopldeeojehklaaDoorW.PrintMore Go.RF
set_option linter.unusedVariables false
set_option linter.unusedSimpArgs false
attribute [local go_sem] max2_int min2_int max_two min_two
attribute [local go_sem high] eqA30 eqA32
theorem OB.mono {b b' g cap : Nat} {xs : List Int} {w : World} (h : OB b g cap xs w) (hb : b' ≤ b) : OB b' g cap xs w := ⟨Nat.le_trans hb h.1, h.2⟩
theorem splice_get {α : Type} (L B : List α) (at_ n j : Nat) (hB : B.length = n) (hfit : at_ + n ≤ L.length) : (L.take at_ ++ (B ++ L.drop (at_ + n)))[j]? = if j < at_ then L[j]? else if j - at_ < n then B[j - at_]? else L[j]? := by
  have h1 : (L.take at_).length = at_ := by rw [List.length_take]; omega
  by_cases q1 : j < at_
  · rw [if_pos q1, List.getElem?_append_left (by omega), List.getElem?_take, if_pos q1]
  · rw [if_neg q1, List.getElem?_append_right (by omega), h1]
    by_cases q2 : j - at_ < n
    · rw [if_pos q2, List.getElem?_append_left (by omega)]
    · rw [if_neg q2, List.getElem?_append_right (by omega), hB, List.getElem?_drop]
      congr 1
      omega
theorem OB.copy {o : Oper} {ρ : Operand → Value} {x y : Operand} {w : World} {b g cap at_ n dc sc : Nat} {ad : Addr} {xs B : List Int} (h : OB b g cap xs w) (ho : o.op = .call { callee := .builtin .copy, args := #[x, y], argTypes := #[22, 22] })
    (hx : ρ x = .slice (some ⟨g, at_, none⟩) n dc) (hy : ρ y = .slice (some ad) n sc) (hB : B.length = n) (hs : ∀ j, j < n → w.cell? (ad.add j) = some (.int .u8 (B.getD j 0))) (hfit : at_ + n ≤ xs.length) :
    ∃ cs, (execOp ρ o).run Tryd.prog w = .ok (.value (goInt n)) (w.setRow g cs) ∧ OB b g cap (splice xs at_ B) (w.setRow g cs) := by
  obtain ⟨hg, cur, hh, h1, h2, h3, h4⟩ := h
  have hu : Tryd.prog.underlying 22 = some (.slice 5) := by kernel_rfl
  have hsz : (Tryd.prog.info? 5).map (·.size) = some 1 := by kernel_rfl
  have hl : (nums .u8 B).length = n := by simp [nums, hB]
  have hr := run_copy_row (P := Tryd.prog) w 22 22 o.type 5 g at_ n dc ad n sc cur 5 (nums .u8 B) hu hsz hh (by rw [hl]; exact (Nat.min_self n).symm) (fun j v hv => by
    have hj := (List.getElem?_eq_some_iff.1 hv).1
    rw [hl] at hj
    rw [hs j hj, ← hv]
    unfold nums
    rw [List.getElem?_map, List.getD_eq_getElem?_getD, List.getElem?_eq_getElem (by omega)]
    rfl) (by rw [hl]; omega) (fun v hv => by
      unfold nums at hv
      obtain ⟨a, _, rfl⟩ := List.mem_map.1 hv
      rfl)
  rw [hl] at hr
  obtain ⟨CS, hCS⟩ : ∃ CS, (cur.toList.take at_ ++ nums .u8 B ++ cur.toList.drop (at_ + n)).toArray = CS := ⟨_, rfl⟩
  rw [hCS] at hr
  refine ⟨CS, by unfold execOp; simp [ho, resolve, invoke, builtin, hx, hy, hr, Result.andThen], hg, CS, setRow_heap _ _ _ _ _ _ hh, by rw [length_splice _ _ _ (by rw [hB]; exact hfit)]; exact h1, h2, ?_, fun j hj => ?_⟩
  · rw [← hCS]
    simp only [List.size_toArray, List.length_append, List.length_take, List.length_drop, Array.length_toList, h3, hl]
    omega
  · rw [length_splice _ _ _ (by rw [hB]; exact hfit)] at hj
    have hc : cur.toList.length = cap := by simpa using h3
    have hcur : ∀ i, i < xs.length → cur.toList[i]? = some (.int .u8 (xs.getD i 0)) := fun i hi => by rw [Array.getElem?_toList]; exact h4 i hi
    rw [← hCS, List.getElem?_toArray, List.getD_eq_getElem?_getD]
    unfold splice
    rw [hB]
    simp only [List.append_assoc]
    rw [splice_get cur.toList (nums .u8 B) at_ n j hl (by omega), splice_get xs B at_ n j hB (by omega)]
    by_cases q1 : j < at_
    · rw [if_pos q1, if_pos q1, hcur j (by omega), List.getD_eq_getElem?_getD]
    · by_cases q2 : j - at_ < n
      · rw [if_neg q1, if_pos q2, if_neg q1, if_pos q2]
        unfold nums
        rw [List.getElem?_map, List.getElem?_eq_getElem (by omega)]
        rfl
      · rw [if_neg q1, if_neg q2, if_neg q1, if_neg q2, hcur j (by omega), List.getD_eq_getElem?_getD]
theorem OB.copyE {o : Oper} {ρ : Operand → Value} {x y : Operand} {w : World} {b g cap at_ n dc sc : Nat} {ad : Addr} {xs B : List Int} {G : World → Prop} (h : OB b g cap xs w) (ho : o.op = .call { callee := .builtin .copy, args := #[x, y], argTypes := #[22, 22] })
    (hx : ρ x = .slice (some ⟨g, at_, none⟩) n dc) (hy : ρ y = .slice (some ad) n sc) (hB : B.length = n) (hs : ∀ j, j < n → w.cell? (ad.add j) = some (.int .u8 (B.getD j 0))) (hfit : at_ + n ≤ xs.length)
    (hG : ∀ cs, OB b g cap (splice xs at_ B) (w.setRow g cs) → G (w.setRow g cs)) :
    ∃ w', ((execOp ρ o).run Tryd.prog w = .ok (.value (goInt n)) w' ∨ ((execOp ρ o).run Tryd.prog w = .ok .skip w' ∧ goInt n = undef)) ∧ G w' := by
  obtain ⟨cs, hr, hO⟩ := h.copy ho hx hy hB hs hfit
  exact ⟨_, .inl hr, hG cs hO⟩
theorem slice_ab (g n cap a b : Nat) (h1 : a < b) (h2 : b ≤ cap) (W : World) :
    (Instr.slice 22 (.slice (some ⟨g, 0, none⟩) n cap) (some (.int .i64 (a : Int))) (some (.int .i64 (b : Int))) none).run Tryd.prog W = .ok (.slice (some ⟨g, a, none⟩) (b - a) (cap - a)) W := by
  have hu : Tryd.prog.underlying 22 = some (.slice 5) := by kernel_rfl
  have hcl : Tryd.prog.cellsOf 5 = 1 := by kernel_rfl
  have k1 : (0 : Int) ≤ (a : Int) := by omega
  have k2 : (a : Int) ≤ (b : Int) := by omega
  have k3 : (b : Int) ≤ (cap : Int) := by omega
  have k4 : ¬ cap = a := by omega
  go_simp
def AyB (w0 : World) (g4 g5 g6 g7 : Nat) (H s c b : Array Value) (w : World) : Prop :=
  w.heap[g4]? = some (.cells H 27 (0, 0)) ∧ w.heap[g5]? = some (.cells s 30 (0, 0)) ∧ w.heap[g6]? = some (.cells c 32 (0, 0)) ∧ w.heap[g7]? = some (.cells b 51 (0, 0)) ∧ Below w0.heap.size w0 w
theorem AyB.met {w0 w w' : World} {g4 g5 g6 g7 : Nat} {H s c b : Array Value} (h : AyB w0 g4 g5 g6 g7 H s c b w) (hb : Below w.heap.size w w') : AyB w0 g4 g5 g6 g7 H s c b w' :=
  ⟨heap_below hb h.1, heap_below hb h.2.1, heap_below hb h.2.2.1, heap_below hb h.2.2.2.1, below_step h.2.2.2.2 hb⟩
theorem AyB.row {w0 w : World} {g4 g5 g6 g7 n0 g cap : Nat} {H s c b : Array Value} {xs : List Int} (h : AyB w0 g4 g5 g6 g7 H s c b w) (ho : OB w0.heap.size g cap xs w) (cs : Array Value) : AyB w0 g4 g5 g6 g7 H s c b (w.setRow g cs) :=
  ⟨(setRow_other _ _ _ _ (fun e => ho.ne h.1 (by decide) e.symm)).trans h.1, (setRow_other _ _ _ _ (fun e => ho.ne h.2.1 (by decide) e.symm)).trans h.2.1, (setRow_other _ _ _ _ (fun e => ho.ne h.2.2.1 (by decide) e.symm)).trans h.2.2.1,
    (setRow_other _ _ _ _ (fun e => ho.ne h.2.2.2.1 (by decide) e.symm)).trans h.2.2.2.1, below_setRow h.2.2.2.2 ho.1 _⟩
theorem AyB.cell {w0 w : World} {g4 g5 g6 g7 : Nat} {H s c : Array Value} {B : List Int} (h : AyB w0 g4 g5 g6 g7 H s c (nums .u8 B).toArray w) (a n : Nat) (hn : a + n ≤ B.length) : ∀ j, j < n → w.cell? ((⟨g7, a, none⟩ : Addr).add j) = some (.int .u8 (((B.drop a).take n).getD j 0)) := fun j hj => by
  have e : (⟨g7, a, none⟩ : Addr).add j = ⟨g7, a + j, none⟩ := by
    unfold Addr.add
    split
    · rename_i h0; subst h0; rfl
    · rfl
  rw [e, bC_ h.2.2.2.1, List.getElem?_toArray, List.getD_eq_getElem?_getD, List.getElem?_take, if_pos hj, List.getElem?_drop]
  unfold nums
  rw [List.getElem?_map, List.getElem?_eq_getElem (by omega)]
  rfl
theorem load_27 {W : World} {g : Nat} {cs : Array Value} (hsz : cs.size = 5) (hb : W.heap[g]? = some (.cells cs 27 (0, 0))) : (Instr.loadAt 27 (.pointer (some ⟨g, 0, none⟩))).run Tryd.prog W = .ok (.agg cs) W := by
  simp only [Instr.loadAt, Instr.sureAddr, Sem.run_bind, Sem.run_pure, Result.andThen_ok, run_loadVar_row W g 27 27 cs (0, 0) _ hb Tryd.underlying27 rfl (by rw [hsz]; kernel_rfl)]
theorem load_30 {W : World} {g : Nat} {cs : Array Value} (hsz : cs.size = 7) (hb : W.heap[g]? = some (.cells cs 30 (0, 0))) : (Instr.loadAt 30 (.pointer (some ⟨g, 0, none⟩))).run Tryd.prog W = .ok (.agg cs) W := by
  simp only [Instr.loadAt, Instr.sureAddr, Sem.run_bind, Sem.run_pure, Result.andThen_ok, run_loadVar_row W g 30 30 cs (0, 0) _ hb Tryd.underlying30 rfl (by rw [hsz]; kernel_rfl)]
theorem load_32 {W : World} {g : Nat} {cs : Array Value} (hsz : cs.size = 5) (hb : W.heap[g]? = some (.cells cs 32 (0, 0))) : (Instr.loadAt 32 (.pointer (some ⟨g, 0, none⟩))).run Tryd.prog W = .ok (.agg cs) W := by
  simp only [Instr.loadAt, Instr.sureAddr, Sem.run_bind, Sem.run_pure, Result.andThen_ok, run_loadVar_row W g 32 32 cs (0, 0) _ hb Tryd.underlying32 rfl (by rw [hsz]; kernel_rfl)]
theorem read_hd (b g cap n : Nat) (xs : List Int) (q0 q1 q2 : Int) (S : List S30) (C : List S32) (w : World) (ho : OB b g cap xs w) (hn : xs.length = n) (hb : BB xs) (hT : Tab w) (hr : readP xs = (q0, q1, q2, S, C, 0)) :
    Calls Tryd.prog 10 #[.slice (some ⟨g, 0, none⟩) n cap] w fun e w' => ∃ (A3 : Option Addr) (c3 : Nat) (A4 : Option Addr) (c4 : Nat), e = .returned (.tuple #[.agg #[.int .u64 q0, .int .u64 q1, .int .u64 q2, .slice A3 S.length c3, .slice A4 C.length c4], .int .i64 0]) ∧
      (Kd.C k30 w' A3 S.length S ∧ S.length ≤ c3 ∧ Kd.C k32 w' A4 C.length C ∧ C.length ≤ c4) ∧ Below w.heap.size w w' := by
  subst hn
  refine (header_Read.calls (some ⟨g, 0, none⟩) cap xs q0 q1 q2 S C 0 w ho.C ho.cap_le hT (by unfold header_Read.f; rw [G.Read_eq, if_pos hb, hr])).mono ?_
  rintro e w' ⟨v3, v4, rfl, hr3, hr4, hb'⟩
  obtain ⟨A3, c3, rfl⟩ := Kd.R_slice hr3
  obtain ⟨A4, c4, rfl⟩ := Kd.R_slice hr4
  exact ⟨_, _, _, _, rfl, ⟨(cells_of_R hr3).1, (cells_of_R hr3).2, (cells_of_R hr4).1, (cells_of_R hr4).2⟩, hb'⟩
theorem take_seg_at (b g cap n : Nat) (xs : List Int) (s0 s1 s2 s3 s4 s5 s6 : Int) (w : World) (ho : OB b g cap xs w) (hn : xs.length = n) (hn2 : n ≤ 1000) (hb : BB xs) (hT : Tab w) (hr : takeSegP xs = segT ⟨s0, s1, s2, s3, s4, s5, s6⟩ 0) :
    Calls Tryd.prog 20 #[.slice (some ⟨g, 0, none⟩) n cap] w fun e w' => e = .returned (.tuple #[.agg #[.int .u32 s0, .int .u32 s1, .int .u64 s2, .int .u64 s3, .int .u64 s4, .int .u64 s5, .int .u64 s6], .int .i64 0]) ∧ Below w.heap.size w w' := by
  subst hn
  exact header_TakeSegment.calls (some ⟨g, 0, none⟩) cap xs s0 s1 s2 s3 s4 s5 s6 0 w ho.C ho.cap_le hT (by unfold header_TakeSegment.f; rw [G.TakeSegment_eq, if_pos ⟨hb, by omega⟩, hr]; rfl)
theorem take_sec_at (b g cap n : Nat) (xs : List Int) (b0 b1 b2 b3 b4 : Int) (w : World) (ho : OB b g cap xs w) (hn : xs.length = n) (hn2 : n ≤ 1000) (hb : BB xs) (hT : Tab w) (hr : takeSecP xs = secT ⟨b0, b1, b2, b3, b4⟩ 0) :
    Calls Tryd.prog 22 #[.slice (some ⟨g, 0, none⟩) n cap] w fun e w' => e = .returned (.tuple #[.agg #[.int .u32 b0, .int .u64 b1, .int .u64 b2, .int .u32 b3, .int .u64 b4], .int .i64 0]) ∧ Below w.heap.size w w' := by
  subst hn
  exact header_TakeSection.calls (some ⟨g, 0, none⟩) cap xs b0 b1 b2 b3 b4 0 w ho.C ho.cap_le hT (by unfold header_TakeSection.f; rw [G.TakeSection_eq, if_pos ⟨hb, by omega⟩, hr]; rfl)
def Cpy (w0 : World) (g4 g5 g6 g7 : Nat) (H s c b : Array Value) (w1 : World) (ga ca : Nat) (xs : List Int) (gb cb : Nat) (ys zs : List Int) (i : Nat) (f : Nat → Bool) (w : World) : Prop :=
  AyB w0 g4 g5 g6 g7 H s c b w ∧ OB w1.heap.size ga ca xs w ∧ OB w1.heap.size gb cb (bif f i then zs else ys) w
theorem AyB.row1 {w0 w w1 : World} {g4 g5 g6 g7 g cap : Nat} {H s c b : Array Value} {xs : List Int} (h : AyB w0 g4 g5 g6 g7 H s c b w) (hle : w0.heap.size ≤ w1.heap.size) (ho : OB w1.heap.size g cap xs w) (cs : Array Value) : AyB w0 g4 g5 g6 g7 H s c b (w.setRow g cs) :=
  AyB.row (n0 := 0) h (ho.mono hle) cs
theorem laid_ob (a0 a1 a2 : Int) (A3 : Option Addr) (c3 : Nat) (S : List S30) (A4 : Option Addr) (c4 : Nat) (C : List S32) (xs : List Int) (n : Nat) (hxs : ob a0 S C = xs) (hn : xs.length = n) (w : World) (hC3 : Kd.C k30 w A3 S.length S) (hl3 : S.length ≤ c3) (hC4 : Kd.C k32 w A4 C.length C) (hl4 : C.length ≤ c4) (h3 : S.length ≤ 16) (h4 : C.length ≤ 32) :
    Calls Tryd.prog 24 #[.agg #[.int .u64 a0, .int .u64 a1, .int .u64 a2, .slice A3 S.length c3, .slice A4 C.length c4], .slice none 0 0] w fun e w' => ∃ g cap, e = .returned (.slice (some ⟨g, 0, none⟩) n cap) ∧ OB w.heap.size g cap xs w' ∧ Below w.heap.size w w' := by
  subst hxs
  subst hn
  refine (sundialref03_Laid.calls 1000 a0 a1 a2 A3 c3 S A4 c4 C none 0 [] _ _ hC3 hl3 hC4 hl4 ⟨rfl, by decide, fun h => absurd h (by decide)⟩ (Nat.le_refl 0) (rlaid a0 a1 a2 S C [] (by omega) (by omega) (by decide) 1000 (by omega))).mono ?_
  rintro e w' ⟨v, rfl, hr, hb⟩
  obtain ⟨g, cap, rfl, hO⟩ := OB.of_R hr (by have := ob_len a0 S C; unfold ob at this; omega)
  exact ⟨g, cap, rfl, hO, hb⟩
theorem seg_ob (s0 s1 s2 s3 s4 s5 s6 : Int) (w : World) : Calls Tryd.prog 17 #[.agg #[.int .u32 s0, .int .u32 s1, .int .u64 s2, .int .u64 s3, .int .u64 s4, .int .u64 s5, .int .u64 s6]] w fun e w' => ∃ g cap, e = .returned (.slice (some ⟨g, 0, none⟩) 56 cap) ∧ OB w.heap.size g cap (segB ⟨s0, s1, s2, s3, s4, s5, s6⟩) w' ∧ Below w.heap.size w w' := by
  have hl := segB_len ⟨s0, s1, s2, s3, s4, s5, s6⟩
  refine (sundialref03_Segment.calls 20 s0 s1 s2 s3 s4 s5 s6 _ w (rseg s0 s1 s2 s3 s4 s5 s6 20 (by decide))).mono ?_
  rintro e w' ⟨v, rfl, hr, hb⟩
  obtain ⟨g, cap, rfl, hO⟩ := OB.of_R (xs := segB ⟨s0, s1, s2, s3, s4, s5, s6⟩) hr (by omega)
  rw [hl]
  exact ⟨g, cap, rfl, hO, hb⟩
theorem sec_ob (b0 b1 b2 b3 b4 : Int) (w : World) : Calls Tryd.prog 19 #[.agg #[.int .u32 b0, .int .u64 b1, .int .u64 b2, .int .u32 b3, .int .u64 b4]] w fun e w' => ∃ g cap, e = .returned (.slice (some ⟨g, 0, none⟩) 64 cap) ∧ OB w.heap.size g cap (secB ⟨b0, b1, b2, b3, b4⟩) w' ∧ Below w.heap.size w w' := by
  have hl := secB_len ⟨b0, b1, b2, b3, b4⟩
  refine (sundialref03_Section.calls 20 b0 b1 b2 b3 b4 _ w (rsec b0 b1 b2 b3 b4 20 (by decide))).mono ?_
  rintro e w' ⟨v, rfl, hr, hb⟩
  obtain ⟨g, cap, rfl, hO⟩ := OB.of_R (xs := secB ⟨b0, b1, b2, b3, b4⟩) hr (by omega)
  rw [hl]
  exact ⟨g, cap, rfl, hO, hb⟩
def Two (w0 : World) (F : World → Prop) (i j : Nat) (xs ys : List Int) (f : Nat → Bool) (c : (Nat × Nat) × (Nat × Nat)) (w : World) : Prop :=
  F w ∧ (f i = true → OB w0.heap.size c.1.1 c.1.2 xs w) ∧ (f j = true → OB w0.heap.size c.2.1 c.2.2 ys w) ∧ (f i = true → f j = true → c.1.1 ≠ c.2.1)
theorem many_but2 {md : Region.Mode} {ops : Array Oper} {f : Nat → Bool} {A : Array Value} {Q L M M' : List (Nat × Value)} (NK : List (Nat × Nat)) (hd : RS.depsOk md ops = true)
    (hM : M.map (·.1) = NK.map (·.2)) (hM' : M'.map (·.1) = NK.map (·.2)) (hN : NK.all (fun x => match ops[x.1]? with | some o => o.dst == some x.2 | none => false) = true) (hf : ∀ x ∈ NK, f x.1 = false) :
    RS.Agree ops f (RS.sets A (Q ++ (M ++ L))) (RS.sets A (Q ++ (M' ++ L))) := by
  rw [RS.sets_append Q (M ++ L), RS.sets_append Q (M' ++ L)]
  exact RS.many_but NK hd hM hM' hN hf
set_option maxHeartbeats 8000000 in
set_option maxRecDepth 100000 in
theorem any_wakes_a (a0 a1 a2 : Int) (A3 : Option Addr) (c3 : Nat) (S : List S30) (A4 : Option Addr) (c4 : Nat) (C : List S32) (s0 s1 s2 s3 s4 s5 s6 b0 b1 b2 b3 b4 : Int) (B : List Int) (w : World) (hC3 : Kd.C k30 w A3 S.length S) (hl3 : S.length ≤ c3) (hC4 : Kd.C k32 w A4 C.length C) (hl4 : C.length ≤ c4) (hT : Tab w) (hh : 16 < S.length) :
    Calls Tryd.prog 7 #[.agg #[.int .u64 a0, .int .u64 a1, .int .u64 a2, .slice A3 S.length c3, .slice A4 C.length c4], .agg #[.int .u32 s0, .int .u32 s1, .int .u64 s2, .int .u64 s3, .int .u64 s4, .int .u64 s5, .int .u64 s6], .agg #[.int .u32 b0, .int .u64 b1, .int .u64 b2, .int .u32 b3, .int .u64 b4], .agg (nums .u8 B).toArray] w fun e w' => e = .returned (.bool true) ∧ Below w.heap.size w w' := by
  have d1 : decide ((16 : Int) < (S.length : Int)) = true := decide_eq_true (by omega)
  have hu27 := Tryd.underlying27
  have hu30 := Tryd.underlying30
  have hu32 := Tryd.underlying32
  have hu51 := Tryd.underlying51
  have HT := Aside0.mk hT
  clear hT
  obtain ⟨bb, hbb⟩ : ∃ bb, (nums .u8 B).toArray = bb := ⟨_, rfl⟩
  have HBBA := Aside0.mk hbb
  rw [hbb]
  clear hbb
  go_enter Tryd.func7, Tryd.ntmps7
  go_wp2_with (first | ((with_reducible refine gate_dst (N := 4) rfl ?_); refine box_event ?hg (N := 4) ?hd (cs := #[.int .u64 a0, .int .u64 a1, .int .u64 a2, .slice A3 S.length c3, .slice A4 C.length c4]) (t := 27) ?hr ?_; (case hd => rfl); (case hg => rfl); (case hr => first | (go_simp; done) | (go_simp; rfl)); intro g4 hg w1 hbox hb; have HB := Aside0.mk hb; have BK_4 := Aside0.mk hbox; clear hg hbox hb) | ((with_reducible refine gate_dst (N := 5) rfl ?_); refine box_event ?hg (N := 5) ?hd (cs := #[.int .u32 s0, .int .u32 s1, .int .u64 s2, .int .u64 s3, .int .u64 s4, .int .u64 s5, .int .u64 s6]) (t := 30) ?hr ?_; (case hd => rfl); (case hg => rfl); (case hr => first | (go_simp; done) | (go_simp; rfl)); intro g5 hg w2 hbox hb; have HB2 := Aside0.mk (below_step HB.out hb); clear HB; have HB := HB2; clear HB2; have BK_5 := Aside0.mk hbox; have BB_ := Aside0.mk (heap_below hb BK_4.out); clear BK_4; have BK_4 := BB_; clear BB_; clear hg hbox hb) | ((with_reducible refine gate_dst (N := 6) rfl ?_); refine box_event ?hg (N := 6) ?hd (cs := #[.int .u32 b0, .int .u64 b1, .int .u64 b2, .int .u32 b3, .int .u64 b4]) (t := 32) ?hr ?_; (case hd => rfl); (case hg => rfl); (case hr => first | (go_simp; done) | (go_simp; rfl)); intro g6 hg w3 hbox hb; have HB2 := Aside0.mk (below_step HB.out hb); clear HB; have HB := HB2; clear HB2; have BK_6 := Aside0.mk hbox; have BB_ := Aside0.mk (heap_below hb BK_4.out); clear BK_4; have BK_4 := BB_; clear BB_; have BB_ := Aside0.mk (heap_below hb BK_5.out); clear BK_5; have BK_5 := BB_; clear BB_; clear hg hbox hb) | ((with_reducible refine gate_dst (N := 7) rfl ?_); refine box_event ?hg (N := 7) ?hd (cs := bb) (t := 51) ?hr ?_; (case hd => rfl); (case hg => rfl); (case hr => first | (go_simp; done) | (go_simp; rfl)); intro g7 hg w4 hbox hb; have HB2 := Aside0.mk (below_step HB.out hb); clear HB; have HB := HB2; clear HB2; have BK_7 := Aside0.mk hbox; have BB_ := Aside0.mk (heap_below hb BK_4.out); clear BK_4; have BK_4 := BB_; clear BB_; have BB_ := Aside0.mk (heap_below hb BK_5.out); clear BK_5; have BK_5 := BB_; clear BB_; have BB_ := Aside0.mk (heap_below hb BK_6.out); clear BK_6; have BK_6 := BB_; clear BB_; have hcz3 : w4.cell? ⟨g4, 3, none⟩ = some (.slice A3 S.length c3) := (bC_ BK_4.out 3).trans rfl; have hcz4 : w4.cell? ⟨g4, 4, none⟩ = some (.slice A4 C.length c4) := (bC_ BK_4.out 4).trans rfl; clear hg hbox hb) | (go_at_call 9; refine (sundiallaw03_wakes.calls true _ (Tab.below HT.out HB.out) wakes_f).mono ?_; rintro e w5 ⟨rfl, hb2⟩))
  go_ret
  exact ⟨rfl, below_step HB.out hb2⟩
set_option maxHeartbeats 8000000 in
set_option maxRecDepth 100000 in
theorem any_wakes_b (a0 a1 a2 : Int) (A3 : Option Addr) (c3 : Nat) (S : List S30) (A4 : Option Addr) (c4 : Nat) (C : List S32) (s0 s1 s2 s3 s4 s5 s6 b0 b1 b2 b3 b4 : Int) (B : List Int) (w : World) (hC3 : Kd.C k30 w A3 S.length S) (hl3 : S.length ≤ c3) (hC4 : Kd.C k32 w A4 C.length C) (hl4 : C.length ≤ c4) (hT : Tab w) (hh : S.length ≤ 16 ∧ 32 < C.length) :
    Calls Tryd.prog 7 #[.agg #[.int .u64 a0, .int .u64 a1, .int .u64 a2, .slice A3 S.length c3, .slice A4 C.length c4], .agg #[.int .u32 s0, .int .u32 s1, .int .u64 s2, .int .u64 s3, .int .u64 s4, .int .u64 s5, .int .u64 s6], .agg #[.int .u32 b0, .int .u64 b1, .int .u64 b2, .int .u32 b3, .int .u64 b4], .agg (nums .u8 B).toArray] w fun e w' => e = .returned (.bool true) ∧ Below w.heap.size w w' := by
  have d1 : decide ((16 : Int) < (S.length : Int)) = false := decide_eq_false (by omega)
  have d2 : decide ((32 : Int) < (C.length : Int)) = true := decide_eq_true (by omega)
  have hu27 := Tryd.underlying27
  have hu30 := Tryd.underlying30
  have hu32 := Tryd.underlying32
  have hu51 := Tryd.underlying51
  have HT := Aside0.mk hT
  clear hT
  obtain ⟨bb, hbb⟩ : ∃ bb, (nums .u8 B).toArray = bb := ⟨_, rfl⟩
  have HBBA := Aside0.mk hbb
  rw [hbb]
  clear hbb
  go_enter Tryd.func7, Tryd.ntmps7
  go_wp2_with (first | ((with_reducible refine gate_dst (N := 4) rfl ?_); refine box_event ?hg (N := 4) ?hd (cs := #[.int .u64 a0, .int .u64 a1, .int .u64 a2, .slice A3 S.length c3, .slice A4 C.length c4]) (t := 27) ?hr ?_; (case hd => rfl); (case hg => rfl); (case hr => first | (go_simp; done) | (go_simp; rfl)); intro g4 hg w1 hbox hb; have HB := Aside0.mk hb; have BK_4 := Aside0.mk hbox; clear hg hbox hb) | ((with_reducible refine gate_dst (N := 5) rfl ?_); refine box_event ?hg (N := 5) ?hd (cs := #[.int .u32 s0, .int .u32 s1, .int .u64 s2, .int .u64 s3, .int .u64 s4, .int .u64 s5, .int .u64 s6]) (t := 30) ?hr ?_; (case hd => rfl); (case hg => rfl); (case hr => first | (go_simp; done) | (go_simp; rfl)); intro g5 hg w2 hbox hb; have HB2 := Aside0.mk (below_step HB.out hb); clear HB; have HB := HB2; clear HB2; have BK_5 := Aside0.mk hbox; have BB_ := Aside0.mk (heap_below hb BK_4.out); clear BK_4; have BK_4 := BB_; clear BB_; clear hg hbox hb) | ((with_reducible refine gate_dst (N := 6) rfl ?_); refine box_event ?hg (N := 6) ?hd (cs := #[.int .u32 b0, .int .u64 b1, .int .u64 b2, .int .u32 b3, .int .u64 b4]) (t := 32) ?hr ?_; (case hd => rfl); (case hg => rfl); (case hr => first | (go_simp; done) | (go_simp; rfl)); intro g6 hg w3 hbox hb; have HB2 := Aside0.mk (below_step HB.out hb); clear HB; have HB := HB2; clear HB2; have BK_6 := Aside0.mk hbox; have BB_ := Aside0.mk (heap_below hb BK_4.out); clear BK_4; have BK_4 := BB_; clear BB_; have BB_ := Aside0.mk (heap_below hb BK_5.out); clear BK_5; have BK_5 := BB_; clear BB_; clear hg hbox hb) | ((with_reducible refine gate_dst (N := 7) rfl ?_); refine box_event ?hg (N := 7) ?hd (cs := bb) (t := 51) ?hr ?_; (case hd => rfl); (case hg => rfl); (case hr => first | (go_simp; done) | (go_simp; rfl)); intro g7 hg w4 hbox hb; have HB2 := Aside0.mk (below_step HB.out hb); clear HB; have HB := HB2; clear HB2; have BK_7 := Aside0.mk hbox; have BB_ := Aside0.mk (heap_below hb BK_4.out); clear BK_4; have BK_4 := BB_; clear BB_; have BB_ := Aside0.mk (heap_below hb BK_5.out); clear BK_5; have BK_5 := BB_; clear BB_; have BB_ := Aside0.mk (heap_below hb BK_6.out); clear BK_6; have BK_6 := BB_; clear BB_; have hcz3 : w4.cell? ⟨g4, 3, none⟩ = some (.slice A3 S.length c3) := (bC_ BK_4.out 3).trans rfl; have hcz4 : w4.cell? ⟨g4, 4, none⟩ = some (.slice A4 C.length c4) := (bC_ BK_4.out 4).trans rfl; clear hg hbox hb) | (go_at_call 9; refine (sundiallaw03_wakes.calls true _ (Tab.below HT.out HB.out) wakes_f).mono ?_; rintro e w5 ⟨rfl, hb2⟩))
  go_ret
  exact ⟨rfl, below_step HB.out hb2⟩
set_option maxHeartbeats 8000000 in
set_option maxRecDepth 100000 in
theorem any_main (a0 a1 a2 : Int) (A3 : Option Addr) (c3 : Nat) (S : List S30) (A4 : Option Addr) (c4 : Nat) (C : List S32) (s0 s1 s2 s3 s4 s5 s6 b0 b1 b2 b3 b4 : Int) (B : List Int) (w : World) (hC3 : Kd.C k30 w A3 S.length S) (hl3 : S.length ≤ c3) (hC4 : Kd.C k32 w A4 C.length C) (hl4 : C.length ≤ c4) (hT : Tab w) (hB : B.length = 16) (hBB : BB B) (hg : Rg a0 ∧ (∀ x ∈ S, GoodSeg x) ∧ (∀ x ∈ C, GoodSec x)) (hgs : GoodSeg ⟨s0, s1, s2, s3, s4, s5, s6⟩) (hgc : GoodSec ⟨b0, b1, b2, b3, b4⟩) (h3 : S.length ≤ 16) (h4 : C.length ≤ 32) :
    Calls Tryd.prog 7 #[.agg #[.int .u64 a0, .int .u64 a1, .int .u64 a2, .slice A3 S.length c3, .slice A4 C.length c4], .agg #[.int .u32 s0, .int .u32 s1, .int .u64 s2, .int .u64 s3, .int .u64 s4, .int .u64 s5, .int .u64 s6], .agg #[.int .u32 b0, .int .u64 b1, .int .u64 b2, .int .u32 b3, .int .u64 b4], .agg (nums .u8 B).toArray] w fun e w' => e = .returned (.bool true) ∧ Below w.heap.size w w' := by
  have d1 : decide ((16 : Int) < (S.length : Int)) = false := decide_eq_false (by omega)
  have d2 : decide ((32 : Int) < (C.length : Int)) = false := decide_eq_false (by omega)
  have hu27 := Tryd.underlying27
  have hu30 := Tryd.underlying30
  have hu32 := Tryd.underlying32
  have hu51 := Tryd.underlying51
  have HT := Aside0.mk hT
  clear hT
  obtain ⟨bb, hbb⟩ : ∃ bb, (nums .u8 B).toArray = bb := ⟨_, rfl⟩
  have HBBA := Aside0.mk hbb
  rw [hbb]
  clear hbb
  go_enter Tryd.func7, Tryd.ntmps7
  go_upto_region 3 with (first | ((with_reducible refine gate_dst (N := 4) rfl ?_); refine box_event ?hg (N := 4) ?hd (cs := #[.int .u64 a0, .int .u64 a1, .int .u64 a2, .slice A3 S.length c3, .slice A4 C.length c4]) (t := 27) ?hr ?_; (case hd => rfl); (case hg => rfl); (case hr => first | (go_simp; done) | (go_simp; rfl)); intro g4 hg w1 hbox hb; have HB := Aside0.mk hb; have BK_4 := Aside0.mk hbox; clear hg hbox hb) | ((with_reducible refine gate_dst (N := 5) rfl ?_); refine box_event ?hg (N := 5) ?hd (cs := #[.int .u32 s0, .int .u32 s1, .int .u64 s2, .int .u64 s3, .int .u64 s4, .int .u64 s5, .int .u64 s6]) (t := 30) ?hr ?_; (case hd => rfl); (case hg => rfl); (case hr => first | (go_simp; done) | (go_simp; rfl)); intro g5 hg w2 hbox hb; have HB2 := Aside0.mk (below_step HB.out hb); clear HB; have HB := HB2; clear HB2; have BK_5 := Aside0.mk hbox; have BB_ := Aside0.mk (heap_below hb BK_4.out); clear BK_4; have BK_4 := BB_; clear BB_; clear hg hbox hb) | ((with_reducible refine gate_dst (N := 6) rfl ?_); refine box_event ?hg (N := 6) ?hd (cs := #[.int .u32 b0, .int .u64 b1, .int .u64 b2, .int .u32 b3, .int .u64 b4]) (t := 32) ?hr ?_; (case hd => rfl); (case hg => rfl); (case hr => first | (go_simp; done) | (go_simp; rfl)); intro g6 hg w3 hbox hb; have HB2 := Aside0.mk (below_step HB.out hb); clear HB; have HB := HB2; clear HB2; have BK_6 := Aside0.mk hbox; have BB_ := Aside0.mk (heap_below hb BK_4.out); clear BK_4; have BK_4 := BB_; clear BB_; have BB_ := Aside0.mk (heap_below hb BK_5.out); clear BK_5; have BK_5 := BB_; clear BB_; clear hg hbox hb) | ((with_reducible refine gate_dst (N := 7) rfl ?_); refine box_event ?hg (N := 7) ?hd (cs := bb) (t := 51) ?hr ?_; (case hd => rfl); (case hg => rfl); (case hr => first | (go_simp; done) | (go_simp; rfl)); intro g7 hg w4 hbox hb; have HB2 := Aside0.mk (below_step HB.out hb); clear HB; have HB := HB2; clear HB2; have BK_7 := Aside0.mk hbox; have BB_ := Aside0.mk (heap_below hb BK_4.out); clear BK_4; have BK_4 := BB_; clear BB_; have BB_ := Aside0.mk (heap_below hb BK_5.out); clear BK_5; have BK_5 := BB_; clear BB_; have BB_ := Aside0.mk (heap_below hb BK_6.out); clear BK_6; have BK_6 := BB_; clear BB_; have hcz3 : w4.cell? ⟨g4, 3, none⟩ = some (.slice A3 S.length c3) := (bC_ BK_4.out 3).trans rfl; have hcz4 : w4.cell? ⟨g4, 4, none⟩ = some (.slice A4 C.length c4) := (bC_ BK_4.out 4).trans rfl; clear hg hbox hb))
  clear d1 d2 hcz3 hcz4
  have HA := Aside0.mk (show AyB w g4 g5 g6 g7 #[.int .u64 a0, .int .u64 a1, .int .u64 a2, .slice A3 S.length c3, .slice A4 C.length c4] #[.int .u32 s0, .int .u32 s1, .int .u64 s2, .int .u64 s3, .int .u64 s4, .int .u64 s5, .int .u64 s6] #[.int .u32 b0, .int .u64 b1, .int .u64 b2, .int .u32 b3, .int .u64 b4] bb w4 from ⟨BK_4.out, BK_5.out, BK_6.out, BK_7.out, HB.out⟩)
  clear BK_4 BK_5 BK_6 BK_7 HB
  obtain ⟨xs, hxs⟩ : ∃ xs, ob a0 S C = xs := ⟨_, rfl⟩
  obtain ⟨n, hn⟩ : ∃ n, xs.length = n := ⟨_, rfl⟩
  have HXS := Aside0.mk hxs
  have HN := Aside0.mk hn
  have Nxs := Aside0.mk hn
  have BBxs := Aside0.mk (show BB xs by rw [← hxs]; exact ob_BB a0 S C)
  have HN2 := Aside0.mk (show n = 64 + 56 * S.length + 64 * C.length by rw [← hn, ← hxs, ob_len])
  clear hxs hn
  refine RS.wp_choice (C := (Nat × Nat) × (Nat × Nat)) (by kernel_rfl) (fun c => [(33, .slice (some ⟨c.1.1, 0, none⟩) n c.1.2), (9, .slice (some ⟨c.1.1, 0, none⟩) n c.1.2)] ++ ([(35, .slice (some ⟨c.2.1, 0, none⟩) n c.2.2), (10, .slice (some ⟨c.2.1, 0, none⟩) n c.2.2)] ++ [(32, .agg #[.int .u64 a0, .int .u64 a1, .int .u64 a2, .slice A3 S.length c3, .slice A4 C.length c4]), (34, .agg #[.int .u64 a0, .int .u64 a1, .int .u64 a2, .slice A3 S.length c3, .slice A4 C.length c4])])) (Two w (AyB w g4 g5 g6 g7 #[.int .u64 a0, .int .u64 a1, .int .u64 a2, .slice A3 S.length c3, .slice A4 C.length c4] #[.int .u32 s0, .int .u32 s1, .int .u64 s2, .int .u64 s3, .int .u64 s4, .int .u64 s5, .int .u64 s6] #[.int .u32 b0, .int .u64 b1, .int .u64 b2, .int .u32 b3, .int .u64 b4] bb) 1 3 (xs) (xs)) (by kernel_rfl) (fun c => by kernel_rfl) ((0, 0), (0, 0)) (fun f hk => ?_) ?_ ?_
  · exact ⟨HA.out.met (bY_ (Below.refl _ _)), fun e => (by rw [hk 1 (by decide)] at e; cases e), fun e => (by rw [hk 3 (by decide)] at e; cases e), fun e => (by rw [hk 1 (by decide)] at e; cases e)⟩
  · exact ⟨RS.StepC.of (fun c => RS.StepE.load 32 (.agg #[.int .u64 a0, .int .u64 a1, .int .u64 a2, .slice A3 S.length c3, .slice A4 C.length c4]) (by kernel_rfl) (by kernel_rfl) rfl (fun f w h => h) (fun f w p1 p2 h => run_load rfl (by kernel_rfl) (load_27 rfl h.1.1))),
      RS.StepC.chooseCall 24 (fun c => #[.agg #[.int .u64 a0, .int .u64 a1, .int .u64 a2, .slice A3 S.length c3, .slice A4 C.length c4], .slice none 0 0]) (fun c => by kernel_rfl) (fun c w => by kernel_rfl) (fun f c w h0 p1 p2 h => by
        have h0 : f 1 = false := h0
        have e4 : f 4 = false := p2 4 (by kernel_rfl) (by decide)
        refine (laid_ob a0 a1 a2 A3 c3 S A4 c4 C xs n HXS.out HN.out w (Kd.C_below hC3 h.1.2.2.2.2) hl3 (Kd.C_below hC4 h.1.2.2.2.2) hl4 h3 h4).mono ?_
        rintro e w' ⟨g, cap, rfl, hO, hb⟩
        refine ⟨_, ((g, cap), c.2), rfl, fun d hd => by cases hd; kernel_rfl, RS.many_but (md := .any) [(1, 33), (4, 9)] (by kernel_rfl) rfl rfl (by kernel_rfl) (by simp [h0, e4]), ?_⟩
        exact ⟨h.1.met hb, fun _ => hO.mono h.1.2.2.2.2.size, fun e => (h.2.2.1 e).met hb, fun _ e => Nat.ne_of_gt (Nat.lt_of_lt_of_le (h.2.2.1 e).lt hO.1)⟩),
      RS.StepC.of (fun c => RS.StepE.load 34 (.agg #[.int .u64 a0, .int .u64 a1, .int .u64 a2, .slice A3 S.length c3, .slice A4 C.length c4]) (by kernel_rfl) (by kernel_rfl) rfl (fun f w h => h) (fun f w p1 p2 h => run_load rfl (by kernel_rfl) (load_27 rfl h.1.1))),
      RS.StepC.chooseCall 24 (fun c => #[.agg #[.int .u64 a0, .int .u64 a1, .int .u64 a2, .slice A3 S.length c3, .slice A4 C.length c4], .slice none 0 0]) (fun c => by kernel_rfl) (fun c w => by kernel_rfl) (fun f c w h0 p1 p2 h => by
        have h0 : f 3 = false := h0
        have e4 : f 5 = false := p2 5 (by kernel_rfl) (by decide)
        refine (laid_ob a0 a1 a2 A3 c3 S A4 c4 C xs n HXS.out HN.out w (Kd.C_below hC3 h.1.2.2.2.2) hl3 (Kd.C_below hC4 h.1.2.2.2.2) hl4 h3 h4).mono ?_
        rintro e w' ⟨g, cap, rfl, hO, hb⟩
        refine ⟨_, (c.1, (g, cap)), rfl, fun d hd => by cases hd; kernel_rfl, many_but2 (md := .any) [(3, 35), (5, 10)] (by kernel_rfl) rfl rfl (by kernel_rfl) (by simp [h0, e4]), ?_⟩
        exact ⟨h.1.met hb, fun e => (h.2.1 e).met hb, fun _ => hO.mono h.1.2.2.2.2.size, fun e _ => Nat.ne_of_lt (Nat.lt_of_lt_of_le (h.2.1 e).lt hO.1)⟩),
      RS.StepC.of (fun c => RS.StepE.pure 9 (by kernel_rfl) rfl (fun w => by kernel_rfl) (fun f w h => h)),
      RS.StepC.of (fun c => RS.StepE.pure 10 (by kernel_rfl) rfl (fun w => by kernel_rfl) (fun f w h => h)), trivial⟩
  rintro f ⟨⟨ga, ca⟩, ⟨gb, cb⟩⟩ w5 hk ⟨hs, ho1, ho2, hne⟩
  have ho1 : OB w.heap.size ga ca (xs) w5 := ho1 (hk _)
  have ho2 : OB w.heap.size gb cb (xs) w5 := ho2 (hk _)
  have hne : ga ≠ gb := hne (hk _) (hk _)
  (try simp only [List.cons_append, List.nil_append, RS.sets, List.setIfInBounds_toArray, List.set_cons_zero, List.set_cons_succ])
  have HNE := Aside0.mk hne
  have HS := Aside0.mk hs
  have HO1 := Aside0.mk ho1
  have HO2 := Aside0.mk ho2
  clear hs ho1 ho2 hne HA
  go_upto_region 4 with (fail)
  refine RS.wp_events (by kernel_rfl) [(36, .slice (some ⟨gb, 0, none⟩) n cb), (37, .slice (some ⟨gb, 7, none⟩) 9 (cb - 7)), (38, .slice (some ⟨g7, 0, none⟩) 9 16), (39, (goInt ((9 : Nat) : Int)))] (Cpy w g4 g5 g6 g7 #[.int .u64 a0, .int .u64 a1, .int .u64 a2, .slice A3 S.length c3, .slice A4 C.length c4] #[.int .u32 s0, .int .u32 s1, .int .u64 s2, .int .u64 s3, .int .u64 s4, .int .u64 s5, .int .u64 s6] #[.int .u32 b0, .int .u64 b1, .int .u64 b2, .int .u32 b3, .int .u64 b4] bb w ga ca (xs) gb cb (xs) (splice xs 7 ((B.drop 0).take 9)) 3) (by kernel_rfl) (by kernel_rfl) (fun f hk => ?_) ?_ ?_
  · exact ⟨HS.out.met (bY_ (Below.refl _ _)), HO1.out.met (bY_ (Below.refl _ _)), by rw [hk 3 (by decide)]; exact HO2.out.met (bY_ (Below.refl _ _))⟩
  · exact ⟨RS.StepE.pure 36 (by kernel_rfl) rfl (fun w => by kernel_rfl) (fun f w h => h),
      RS.StepE.load 37 (.slice (some ⟨gb, 7, none⟩) 9 (cb - 7)) (by kernel_rfl) (by kernel_rfl) rfl (fun f w h => h) (fun f w p1 p2 h => run_slice2 rfl (by kernel_rfl) (by kernel_rfl) (by kernel_rfl) (slice_ab gb n cb 7 16 (by decide) (by have := HO2.out.cap_le; have := Nxs.out; have := HN2.out; omega) w)),
      RS.StepE.pure 38 (by kernel_rfl) rfl (fun w => by kernel_rfl) (fun f w h => h),
      RS.StepE.event ((goInt ((9 : Nat) : Int))) (by intro d hd; cases hd; kernel_rfl) (by kernel_rfl) (fun f wq h0 p1 p2 h => by
            have h0 : f 3 = false := h0
            obtain ⟨h1, h2, h3⟩ := h
            have h3 : OB w.heap.size gb cb (xs) wq := by rw [h0] at h3; exact h3
            have hc := AyB.cell (B := B) (by rw [HBBA.out]; exact h1) 0 9 (by rw [hB]; decide)
            exact OB.copyE (n := 9) (at_ := 7) (sc := 16) (dc := cb - 7) h3 rfl (by kernel_rfl) (by kernel_rfl) (by rw [List.length_take, List.length_drop, hB]; rfl) hc (by have := Nxs.out; have := HN2.out; omega) (fun cs hO => ⟨h1.row1 (Nat.le_refl _) h3 cs, h2.farRow HNE.out cs, hO⟩)), trivial⟩
  rintro f w6 hk ⟨hs, ho1, ho2⟩
  rw [hk] at ho2
  obtain ⟨ys, hz⟩ : ∃ z, splice xs 7 ((B.drop 0).take 9) = z := ⟨_, rfl⟩
  have Hys := Aside0.mk hz
  have Nys := Aside0.mk (show ys.length = n by rw [← hz, length_splice _ _ _ (by rw [show ((B.drop 0).take 9).length = 9 by rw [List.length_take, List.length_drop, hB]; rfl]; have := Nxs.out; have := HN2.out; omega)]; exact Nxs.out)
  have BBys := Aside0.mk (show BB ys by rw [← hz]; exact splice_BB _ BBxs.out ((hBB.drop _).take _))
  have ho2 : OB w.heap.size gb cb ys w6 := by rw [← hz]; exact ho2
  clear hz HS HO1 HO2
  have HS := Aside0.mk hs
  have HO1 := Aside0.mk ho1
  have HO2 := Aside0.mk ho2
  clear hs ho1 ho2 hk
  (try simp only [List.cons_append, List.nil_append, RS.sets, List.setIfInBounds_toArray, List.set_cons_zero, List.set_cons_succ])
  go_upto_region 5 with (fail)
  refine RS.wp_events (by kernel_rfl) [(40, .slice (some ⟨gb, 0, none⟩) n cb), (41, .slice (some ⟨gb, 62, none⟩) 2 (cb - 62)), (42, .slice (some ⟨g7, 9, none⟩) 2 7), (43, (goInt ((2 : Nat) : Int)))] (Cpy w g4 g5 g6 g7 #[.int .u64 a0, .int .u64 a1, .int .u64 a2, .slice A3 S.length c3, .slice A4 C.length c4] #[.int .u32 s0, .int .u32 s1, .int .u64 s2, .int .u64 s3, .int .u64 s4, .int .u64 s5, .int .u64 s6] #[.int .u32 b0, .int .u64 b1, .int .u64 b2, .int .u32 b3, .int .u64 b4] bb w ga ca (xs) gb cb (ys) (splice ys 62 ((B.drop 9).take 2)) 3) (by kernel_rfl) (by kernel_rfl) (fun f hk => ?_) ?_ ?_
  · exact ⟨HS.out.met (bY_ (Below.refl _ _)), HO1.out.met (bY_ (Below.refl _ _)), by rw [hk 3 (by decide)]; exact HO2.out.met (bY_ (Below.refl _ _))⟩
  · exact ⟨RS.StepE.pure 40 (by kernel_rfl) rfl (fun w => by kernel_rfl) (fun f w h => h),
      RS.StepE.load 41 (.slice (some ⟨gb, 62, none⟩) 2 (cb - 62)) (by kernel_rfl) (by kernel_rfl) rfl (fun f w h => h) (fun f w p1 p2 h => run_slice2 rfl (by kernel_rfl) (by kernel_rfl) (by kernel_rfl) (slice_ab gb n cb 62 64 (by decide) (by have := HO2.out.cap_le; have := Nys.out; have := HN2.out; omega) w)),
      RS.StepE.pure 42 (by kernel_rfl) rfl (fun w => by kernel_rfl) (fun f w h => h),
      RS.StepE.event ((goInt ((2 : Nat) : Int))) (by intro d hd; cases hd; kernel_rfl) (by kernel_rfl) (fun f wq h0 p1 p2 h => by
            have h0 : f 3 = false := h0
            obtain ⟨h1, h2, h3⟩ := h
            have h3 : OB w.heap.size gb cb (ys) wq := by rw [h0] at h3; exact h3
            have hc := AyB.cell (B := B) (by rw [HBBA.out]; exact h1) 9 2 (by rw [hB]; decide)
            exact OB.copyE (n := 2) (at_ := 62) (sc := 7) (dc := cb - 62) h3 rfl (by kernel_rfl) (by kernel_rfl) (by rw [List.length_take, List.length_drop, hB]; rfl) hc (by have := Nys.out; have := HN2.out; omega) (fun cs hO => ⟨h1.row1 (Nat.le_refl _) h3 cs, h2.farRow HNE.out cs, hO⟩)), trivial⟩
  rintro f w7 hk ⟨hs, ho1, ho2⟩
  rw [hk] at ho2
  obtain ⟨zs, hz⟩ : ∃ z, splice ys 62 ((B.drop 9).take 2) = z := ⟨_, rfl⟩
  have Hzs := Aside0.mk hz
  have Nzs := Aside0.mk (show zs.length = n by rw [← hz, length_splice _ _ _ (by rw [show ((B.drop 9).take 2).length = 2 by rw [List.length_take, List.length_drop, hB]; rfl]; have := Nys.out; have := HN2.out; omega)]; exact Nys.out)
  have BBzs := Aside0.mk (show BB zs by rw [← hz]; exact splice_BB _ BBys.out ((hBB.drop _).take _))
  have ho2 : OB w.heap.size gb cb zs w7 := by rw [← hz]; exact ho2
  clear hz HS HO1 HO2
  have HS := Aside0.mk hs
  have HO1 := Aside0.mk ho1
  have HO2 := Aside0.mk ho2
  clear hs ho1 ho2 hk
  (try simp only [List.cons_append, List.nil_append, RS.sets, List.setIfInBounds_toArray, List.set_cons_zero, List.set_cons_succ])
  go_upto_region 7 with (first | (go_at_call 10; refine (read_hd w.heap.size ga ca n xs a0 64 (64 + 56 * (S.length : Int)) S C _ HO1.out Nxs.out BBxs.out (HT.out.below HS.out.2.2.2.2) (by rw [← HXS.out]; exact read_obj a0 S C [] hg.1 hg.2.1 hg.2.2 h3 h4 (by decide))).mono ?_; rintro e w8 ⟨A5, c5, A6, c6, rfl, hC, hb⟩; have HC11 := Aside0.mk hC; have HB11 := Aside0.mk hb; clear hC hb) | ((with_reducible refine gate_dst (N := 11) rfl ?_); refine box_event ?hg (N := 11) ?hd (cs := #[.int .u64 0, .int .u64 0, .int .u64 0, .slice none 0 0, .slice none 0 0]) (t := 27) ?hr ?_; (case hd => rfl); (case hg => rfl); (case hr => first | (go_simp; done) | (go_simp; rfl)); intro g11 hg w9 hbox hb; have BK_g11 := Aside0.mk hbox; have HA11 := Aside0.mk hb; have HG11 := Aside0.mk hg; clear hg hbox hb) | (with_reducible refine wpList_store_row rfl 27 (.tmp 11) (.tmp 47) rfl g11 #[.int .u64 a0, .int .u64 64, .int .u64 (64 + 56 * (S.length : Int)), .slice A5 S.length c5, .slice A6 C.length c6] rfl rfl 27 #[.int .u64 0, .int .u64 0, .int .u64 0, .slice none 0 0, .slice none 0 0] BK_g11.out (by kernel_rfl) rfl (by simp [Value.oneCell']) ?_))
  obtain ⟨w10, hw⟩ : ∃ w', w9.setRow g11 #[.int .u64 a0, .int .u64 64, .int .u64 (64 + 56 * (S.length : Int)), .slice A5 S.length c5, .slice A6 C.length c6] = w' := ⟨_, rfl⟩
  have hb1 : Below w8.heap.size w8 w10 := by rw [← hw]; exact below_setRow HA11.out (Nat.le_of_eq HG11.out.symm) _
  have BKK := Aside0.mk (show w10.heap[g11]? = some (.cells #[.int .u64 a0, .int .u64 64, .int .u64 (64 + 56 * (S.length : Int)), .slice A5 S.length c5, .slice A6 C.length c6] 27 (0, 0)) by rw [← hw]; exact setRow_heap _ _ _ _ _ _ BK_g11.out)
  have hbw := below_step HB11.out hb1
  have HCC := Aside0.mk (show Kd.C k30 w10 A5 S.length S ∧ S.length ≤ c5 ∧ Kd.C k32 w10 A6 C.length C ∧ C.length ≤ c6 from ⟨Kd.C_below HC11.out.1 hb1, HC11.out.2.1, Kd.C_below HC11.out.2.2.1 hb1, HC11.out.2.2.2⟩)
  rw [hw]
  clear hw hb1 HA11 HG11 HC11 HB11 BK_g11
  have BK11 := BKK
  have HC11 := HCC
  clear BKK HCC
  have HS2 := Aside0.mk (HS.out.met hbw)
  have HO3 := Aside0.mk (HO2.out.met hbw)
  clear HS HO1 HO2 hbw
  have HS := HS2
  clear HS2
  go_upto_region 8 with (first | (go_at_call 10; refine (read_hd w.heap.size gb cb n zs a0 64 (64 + 56 * (S.length : Int)) S C _ HO3.out Nzs.out BBzs.out (HT.out.below HS.out.2.2.2.2) (by rw [← Hzs.out, ← Hys.out, ← HXS.out]; exact read_x2 a0 S C B hB hg.1 hg.2.1 hg.2.2 h3 h4)).mono ?_; rintro e w11 ⟨A7, c7, A8, c8, rfl, hC, hb⟩; have HC13 := Aside0.mk hC; have HB13 := Aside0.mk hb; clear hC hb) | ((with_reducible refine gate_dst (N := 13) rfl ?_); refine box_event ?hg (N := 13) ?hd (cs := #[.int .u64 0, .int .u64 0, .int .u64 0, .slice none 0 0, .slice none 0 0]) (t := 27) ?hr ?_; (case hd => rfl); (case hg => rfl); (case hr => first | (go_simp; done) | (go_simp; rfl)); intro g13 hg w12 hbox hb; have BK_g13 := Aside0.mk hbox; have HA13 := Aside0.mk hb; have HG13 := Aside0.mk hg; clear hg hbox hb) | (with_reducible refine wpList_store_row rfl 27 (.tmp 13) (.tmp 52) rfl g13 #[.int .u64 a0, .int .u64 64, .int .u64 (64 + 56 * (S.length : Int)), .slice A7 S.length c7, .slice A8 C.length c8] rfl rfl 27 #[.int .u64 0, .int .u64 0, .int .u64 0, .slice none 0 0, .slice none 0 0] BK_g13.out (by kernel_rfl) rfl (by simp [Value.oneCell']) ?_))
  obtain ⟨w13, hw⟩ : ∃ w', w12.setRow g13 #[.int .u64 a0, .int .u64 64, .int .u64 (64 + 56 * (S.length : Int)), .slice A7 S.length c7, .slice A8 C.length c8] = w' := ⟨_, rfl⟩
  have hb1 : Below w11.heap.size w11 w13 := by rw [← hw]; exact below_setRow HA13.out (Nat.le_of_eq HG13.out.symm) _
  have BKK := Aside0.mk (show w13.heap[g13]? = some (.cells #[.int .u64 a0, .int .u64 64, .int .u64 (64 + 56 * (S.length : Int)), .slice A7 S.length c7, .slice A8 C.length c8] 27 (0, 0)) by rw [← hw]; exact setRow_heap _ _ _ _ _ _ BK_g13.out)
  have hbw := below_step HB13.out hb1
  have HCC := Aside0.mk (show Kd.C k30 w13 A7 S.length S ∧ S.length ≤ c7 ∧ Kd.C k32 w13 A8 C.length C ∧ C.length ≤ c8 from ⟨Kd.C_below HC13.out.1 hb1, HC13.out.2.1, Kd.C_below HC13.out.2.2.1 hb1, HC13.out.2.2.2⟩)
  rw [hw]
  clear hw hb1 HA13 HG13 HC13 HB13 BK_g13
  have BK13 := BKK
  have HC13 := HCC
  clear BKK HCC
  have HS2 := Aside0.mk (HS.out.met hbw)
  have BKK := Aside0.mk (heap_below hbw BK11.out)
  have HCC := Aside0.mk (show Kd.C k30 w13 A5 S.length S ∧ S.length ≤ c5 ∧ Kd.C k32 w13 A6 C.length C ∧ C.length ≤ c6 from ⟨Kd.C_below HC11.out.1 hbw, HC11.out.2.1, Kd.C_below HC11.out.2.2.1 hbw, HC11.out.2.2.2⟩)
  clear BK11 HC11 HS HO3 hbw HNE Hzs Hys Nys Nzs Nxs BBxs BBys BBzs HXS HN
  have BK11 := BKK
  have HC11 := HCC
  have HS0 := HS2
  clear BKK HCC HS2
  have HS := Aside0.mk (show AyB w13 g4 g5 g6 g7 #[.int .u64 a0, .int .u64 a1, .int .u64 a2, .slice A3 S.length c3, .slice A4 C.length c4] #[.int .u32 s0, .int .u32 s1, .int .u64 s2, .int .u64 s3, .int .u64 s4, .int .u64 s5, .int .u64 s6] #[.int .u32 b0, .int .u64 b1, .int .u64 b2, .int .u32 b3, .int .u64 b4] bb w13 from ⟨HS0.out.1, HS0.out.2.1, HS0.out.2.2.1, HS0.out.2.2.2.1, Below.refl _ _⟩)
  obtain ⟨x1, hx1⟩ : ∃ x1, segB ⟨s0, s1, s2, s3, s4, s5, s6⟩ = x1 := ⟨_, rfl⟩
  obtain ⟨x2, hx2⟩ : ∃ x2, secB ⟨b0, b1, b2, b3, b4⟩ = x2 := ⟨_, rfl⟩
  have HX1 := Aside0.mk hx1
  have HX2 := Aside0.mk hx2
  have Nx1 := Aside0.mk (show x1.length = 56 by rw [← hx1, segB_len])
  have Nx2 := Aside0.mk (show x2.length = 64 by rw [← hx2, secB_len])
  have BBx1 := Aside0.mk (show BB x1 by rw [← hx1]; exact segB_BB _)
  have BBx2 := Aside0.mk (show BB x2 by rw [← hx2]; exact secB_BB _)
  clear hx1 hx2
  refine RS.wp_choice (C := (Nat × Nat) × (Nat × Nat)) (by kernel_rfl) (fun c => [(55, .slice (some ⟨c.1.1, 0, none⟩) 56 c.1.2), (15, .slice (some ⟨c.1.1, 0, none⟩) 56 c.1.2)] ++ ([(57, .slice (some ⟨c.2.1, 0, none⟩) 64 c.2.2), (16, .slice (some ⟨c.2.1, 0, none⟩) 64 c.2.2)] ++ [(54, .agg #[.int .u32 s0, .int .u32 s1, .int .u64 s2, .int .u64 s3, .int .u64 s4, .int .u64 s5, .int .u64 s6]), (56, .agg #[.int .u32 b0, .int .u64 b1, .int .u64 b2, .int .u32 b3, .int .u64 b4])])) (Two w13 (AyB w13 g4 g5 g6 g7 #[.int .u64 a0, .int .u64 a1, .int .u64 a2, .slice A3 S.length c3, .slice A4 C.length c4] #[.int .u32 s0, .int .u32 s1, .int .u64 s2, .int .u64 s3, .int .u64 s4, .int .u64 s5, .int .u64 s6] #[.int .u32 b0, .int .u64 b1, .int .u64 b2, .int .u32 b3, .int .u64 b4] bb) 1 3 (x1) (x2)) (by kernel_rfl) (fun c => by kernel_rfl) ((0, 0), (0, 0)) (fun f hk => ?_) ?_ ?_
  · exact ⟨HS.out.met (bY_ (Below.refl _ _)), fun e => (by rw [hk 1 (by decide)] at e; cases e), fun e => (by rw [hk 3 (by decide)] at e; cases e), fun e => (by rw [hk 1 (by decide)] at e; cases e)⟩
  · exact ⟨RS.StepC.of (fun c => RS.StepE.load 54 (.agg #[.int .u32 s0, .int .u32 s1, .int .u64 s2, .int .u64 s3, .int .u64 s4, .int .u64 s5, .int .u64 s6]) (by kernel_rfl) (by kernel_rfl) rfl (fun f w h => h) (fun f w p1 p2 h => run_load rfl (by kernel_rfl) (load_30 rfl h.1.2.1))),
      RS.StepC.chooseCall 17 (fun c => #[.agg #[.int .u32 s0, .int .u32 s1, .int .u64 s2, .int .u64 s3, .int .u64 s4, .int .u64 s5, .int .u64 s6]]) (fun c => by kernel_rfl) (fun c w => by kernel_rfl) (fun f c w h0 p1 p2 h => by
        have h0 : f 1 = false := h0
        have e4 : f 4 = false := p2 4 (by kernel_rfl) (by decide)
        refine (HX1.out ▸ seg_ob s0 s1 s2 s3 s4 s5 s6 w).mono ?_
        rintro e w' ⟨g, cap, rfl, hO, hb⟩
        refine ⟨_, ((g, cap), c.2), rfl, fun d hd => by cases hd; kernel_rfl, RS.many_but (md := .any) [(1, 55), (4, 15)] (by kernel_rfl) rfl rfl (by kernel_rfl) (by simp [h0, e4]), ?_⟩
        exact ⟨h.1.met hb, fun _ => hO.mono h.1.2.2.2.2.size, fun e => (h.2.2.1 e).met hb, fun _ e => Nat.ne_of_gt (Nat.lt_of_lt_of_le (h.2.2.1 e).lt hO.1)⟩),
      RS.StepC.of (fun c => RS.StepE.load 56 (.agg #[.int .u32 b0, .int .u64 b1, .int .u64 b2, .int .u32 b3, .int .u64 b4]) (by kernel_rfl) (by kernel_rfl) rfl (fun f w h => h) (fun f w p1 p2 h => run_load rfl (by kernel_rfl) (load_32 rfl h.1.2.2.1))),
      RS.StepC.chooseCall 19 (fun c => #[.agg #[.int .u32 b0, .int .u64 b1, .int .u64 b2, .int .u32 b3, .int .u64 b4]]) (fun c => by kernel_rfl) (fun c w => by kernel_rfl) (fun f c w h0 p1 p2 h => by
        have h0 : f 3 = false := h0
        have e4 : f 5 = false := p2 5 (by kernel_rfl) (by decide)
        refine (HX2.out ▸ sec_ob b0 b1 b2 b3 b4 w).mono ?_
        rintro e w' ⟨g, cap, rfl, hO, hb⟩
        refine ⟨_, (c.1, (g, cap)), rfl, fun d hd => by cases hd; kernel_rfl, many_but2 (md := .any) [(3, 57), (5, 16)] (by kernel_rfl) rfl rfl (by kernel_rfl) (by simp [h0, e4]), ?_⟩
        exact ⟨h.1.met hb, fun e => (h.2.1 e).met hb, fun _ => hO.mono h.1.2.2.2.2.size, fun e _ => Nat.ne_of_lt (Nat.lt_of_lt_of_le (h.2.1 e).lt hO.1)⟩),
      RS.StepC.of (fun c => RS.StepE.pure 15 (by kernel_rfl) rfl (fun w => by kernel_rfl) (fun f w h => h)),
      RS.StepC.of (fun c => RS.StepE.pure 16 (by kernel_rfl) rfl (fun w => by kernel_rfl) (fun f w h => h)), trivial⟩
  rintro f ⟨⟨ga, ca⟩, ⟨gb, cb⟩⟩ w14 hk ⟨hs, ho1, ho2, hne⟩
  have ho1 : OB w13.heap.size ga ca (x1) w14 := ho1 (hk _)
  have ho2 : OB w13.heap.size gb cb (x2) w14 := ho2 (hk _)
  have hne : ga ≠ gb := hne (hk _) (hk _)
  (try simp only [List.cons_append, List.nil_append, RS.sets, List.setIfInBounds_toArray, List.set_cons_zero, List.set_cons_succ])
  clear HS
  have HNE := Aside0.mk hne
  have HS := Aside0.mk hs
  have HO1 := Aside0.mk ho1
  have HO2 := Aside0.mk ho2
  clear hs ho1 ho2 hne
  go_upto_region 9 with (fail)
  refine RS.wp_events (by kernel_rfl) [(58, .slice (some ⟨ga, 0, none⟩) 56 ca), (59, .slice (some ⟨ga, 24, none⟩) 8 (ca - 24)), (60, .slice (some ⟨g7, 0, none⟩) 8 16), (61, (goInt ((8 : Nat) : Int)))] (Cpy w13 g4 g5 g6 g7 #[.int .u64 a0, .int .u64 a1, .int .u64 a2, .slice A3 S.length c3, .slice A4 C.length c4] #[.int .u32 s0, .int .u32 s1, .int .u64 s2, .int .u64 s3, .int .u64 s4, .int .u64 s5, .int .u64 s6] #[.int .u32 b0, .int .u64 b1, .int .u64 b2, .int .u32 b3, .int .u64 b4] bb w13 gb cb (x2) ga ca (x1) (splice x1 24 ((B.drop 0).take 8)) 3) (by kernel_rfl) (by kernel_rfl) (fun f hk => ?_) ?_ ?_
  · exact ⟨HS.out.met (bY_ (Below.refl _ _)), HO2.out.met (bY_ (Below.refl _ _)), by rw [hk 3 (by decide)]; exact HO1.out.met (bY_ (Below.refl _ _))⟩
  · exact ⟨RS.StepE.pure 58 (by kernel_rfl) rfl (fun w => by kernel_rfl) (fun f w h => h),
      RS.StepE.load 59 (.slice (some ⟨ga, 24, none⟩) 8 (ca - 24)) (by kernel_rfl) (by kernel_rfl) rfl (fun f w h => h) (fun f w p1 p2 h => run_slice2 rfl (by kernel_rfl) (by kernel_rfl) (by kernel_rfl) (slice_ab ga 56 ca 24 32 (by decide) (by have := HO1.out.cap_le; have := Nx1.out; omega) w)),
      RS.StepE.pure 60 (by kernel_rfl) rfl (fun w => by kernel_rfl) (fun f w h => h),
      RS.StepE.event ((goInt ((8 : Nat) : Int))) (by intro d hd; cases hd; kernel_rfl) (by kernel_rfl) (fun f wq h0 p1 p2 h => by
            have h0 : f 3 = false := h0
            obtain ⟨h1, h2, h3⟩ := h
            have h3 : OB w13.heap.size ga ca (x1) wq := by rw [h0] at h3; exact h3
            have hc := AyB.cell (B := B) (by rw [HBBA.out]; exact h1) 0 8 (by rw [hB]; decide)
            exact OB.copyE (n := 8) (at_ := 24) (sc := 16) (dc := ca - 24) h3 rfl (by kernel_rfl) (by kernel_rfl) (by rw [List.length_take, List.length_drop, hB]; rfl) hc (by have := Nx1.out; have := HN2.out; omega) (fun cs hO => ⟨h1.row1 (Nat.le_refl _) h3 cs, h2.farRow HNE.out.symm cs, hO⟩)), trivial⟩
  rintro f w15 hk ⟨hs, ho1, ho2⟩
  rw [hk] at ho2
  obtain ⟨y1, hz⟩ : ∃ z, splice x1 24 ((B.drop 0).take 8) = z := ⟨_, rfl⟩
  have Hy1 := Aside0.mk hz
  have Ny1 := Aside0.mk (show y1.length = 56 by rw [← hz, length_splice _ _ _ (by rw [show ((B.drop 0).take 8).length = 8 by rw [List.length_take, List.length_drop, hB]; rfl]; have := Nx1.out; have := HN2.out; omega)]; exact Nx1.out)
  have BBy1 := Aside0.mk (show BB y1 by rw [← hz]; exact splice_BB _ BBx1.out ((hBB.drop _).take _))
  have ho2 : OB w13.heap.size ga ca y1 w15 := by rw [← hz]; exact ho2
  clear hz HS HO2 HO1
  have HS := Aside0.mk hs
  have HO2 := Aside0.mk ho1
  have HO1 := Aside0.mk ho2
  clear hs ho1 ho2 hk
  (try simp only [List.cons_append, List.nil_append, RS.sets, List.setIfInBounds_toArray, List.set_cons_zero, List.set_cons_succ])
  go_upto_region 10 with (fail)
  refine RS.wp_events (by kernel_rfl) [(62, .slice (some ⟨gb, 0, none⟩) 64 cb), (63, .slice (some ⟨gb, 0, none⟩) 4 cb), (64, .slice (some ⟨g7, 8, none⟩) 4 8), (65, (goInt ((4 : Nat) : Int)))] (Cpy w13 g4 g5 g6 g7 #[.int .u64 a0, .int .u64 a1, .int .u64 a2, .slice A3 S.length c3, .slice A4 C.length c4] #[.int .u32 s0, .int .u32 s1, .int .u64 s2, .int .u64 s3, .int .u64 s4, .int .u64 s5, .int .u64 s6] #[.int .u32 b0, .int .u64 b1, .int .u64 b2, .int .u32 b3, .int .u64 b4] bb w13 ga ca (y1) gb cb (x2) (splice x2 0 ((B.drop 8).take 4)) 3) (by kernel_rfl) (by kernel_rfl) (fun f hk => ?_) ?_ ?_
  · exact ⟨HS.out.met (bY_ (Below.refl _ _)), HO1.out.met (bY_ (Below.refl _ _)), by rw [hk 3 (by decide)]; exact HO2.out.met (bY_ (Below.refl _ _))⟩
  · exact ⟨RS.StepE.pure 62 (by kernel_rfl) rfl (fun w => by kernel_rfl) (fun f w h => h),
      RS.StepE.load 63 (.slice (some ⟨gb, 0, none⟩) 4 cb) (by kernel_rfl) (by kernel_rfl) rfl (fun f w h => h) (fun f w p1 p2 h => run_slice_h4 rfl (by kernel_rfl) (slice_to4 ⟨gb, 0, none⟩ 64 cb (by decide) (by have := HO2.out.cap_le; have := Nx2.out; omega) w)),
      RS.StepE.pure 64 (by kernel_rfl) rfl (fun w => by kernel_rfl) (fun f w h => h),
      RS.StepE.event ((goInt ((4 : Nat) : Int))) (by intro d hd; cases hd; kernel_rfl) (by kernel_rfl) (fun f wq h0 p1 p2 h => by
            have h0 : f 3 = false := h0
            obtain ⟨h1, h2, h3⟩ := h
            have h3 : OB w13.heap.size gb cb (x2) wq := by rw [h0] at h3; exact h3
            have hc := AyB.cell (B := B) (by rw [HBBA.out]; exact h1) 8 4 (by rw [hB]; decide)
            exact OB.copyE (n := 4) (at_ := 0) (sc := 8) (dc := cb) h3 rfl (by kernel_rfl) (by kernel_rfl) (by rw [List.length_take, List.length_drop, hB]; rfl) hc (by have := Nx2.out; have := HN2.out; omega) (fun cs hO => ⟨h1.row1 (Nat.le_refl _) h3 cs, h2.farRow HNE.out cs, hO⟩)), trivial⟩
  rintro f w16 hk ⟨hs, ho1, ho2⟩
  rw [hk] at ho2
  obtain ⟨y2, hz⟩ : ∃ z, splice x2 0 ((B.drop 8).take 4) = z := ⟨_, rfl⟩
  have Hy2 := Aside0.mk hz
  have Ny2 := Aside0.mk (show y2.length = 64 by rw [← hz, length_splice _ _ _ (by rw [show ((B.drop 8).take 4).length = 4 by rw [List.length_take, List.length_drop, hB]; rfl]; have := Nx2.out; have := HN2.out; omega)]; exact Nx2.out)
  have BBy2 := Aside0.mk (show BB y2 by rw [← hz]; exact splice_BB _ BBx2.out ((hBB.drop _).take _))
  have ho2 : OB w13.heap.size gb cb y2 w16 := by rw [← hz]; exact ho2
  clear hz HS HO1 HO2
  have HS := Aside0.mk hs
  have HO1 := Aside0.mk ho1
  have HO2 := Aside0.mk ho2
  clear hs ho1 ho2 hk
  (try simp only [List.cons_append, List.nil_append, RS.sets, List.setIfInBounds_toArray, List.set_cons_zero, List.set_cons_succ])
  go_upto_region 12 with (first | (go_at_call 20; refine (take_seg_at w13.heap.size ga ca 56 y1 s0 s1 s2 s3 s4 s5 s6 _ HO1.out Ny1.out (by decide) BBy1.out (HT.out.below (below_step HS0.out.2.2.2.2 HS.out.2.2.2.2)) (by rw [← Hy1.out, ← HX1.out]; exact seg_any _ hgs B hB)).mono ?_; rintro e w17 ⟨rfl, hb⟩; have HBA := Aside0.mk hb; clear hb) | ((with_reducible refine gate_dst (N := 17) rfl ?_); refine box_event ?hg (N := 17) ?hd (cs := #[.int .u32 0, .int .u32 0, .int .u64 0, .int .u64 0, .int .u64 0, .int .u64 0, .int .u64 0]) (t := 30) ?hr ?_; (case hd => rfl); (case hg => rfl); (case hr => first | (go_simp; done) | (go_simp; rfl)); intro g17 hg w18 hbox hb; have BK_g17 := Aside0.mk hbox; have HAA := Aside0.mk hb; have HGG := Aside0.mk hg; clear hg hbox hb) | (with_reducible refine wpList_store_row rfl 30 (.tmp 17) (.tmp 69) rfl g17 #[.int .u32 s0, .int .u32 s1, .int .u64 s2, .int .u64 s3, .int .u64 s4, .int .u64 s5, .int .u64 s6] rfl rfl 30 #[.int .u32 0, .int .u32 0, .int .u64 0, .int .u64 0, .int .u64 0, .int .u64 0, .int .u64 0] BK_g17.out (by kernel_rfl) rfl (by simp [Value.oneCell']) ?_))
  obtain ⟨w19, hw⟩ : ∃ w', w18.setRow g17 #[.int .u32 s0, .int .u32 s1, .int .u64 s2, .int .u64 s3, .int .u64 s4, .int .u64 s5, .int .u64 s6] = w' := ⟨_, rfl⟩
  have hb1 : Below w17.heap.size w17 w19 := by rw [← hw]; exact below_setRow HAA.out (Nat.le_of_eq HGG.out.symm) _
  have BKK := Aside0.mk (show w19.heap[g17]? = some (.cells #[.int .u32 s0, .int .u32 s1, .int .u64 s2, .int .u64 s3, .int .u64 s4, .int .u64 s5, .int .u64 s6] 30 (0, 0)) by rw [← hw]; exact setRow_heap _ _ _ _ _ _ BK_g17.out)
  have hbw := below_step HBA.out hb1
  rw [hw]
  clear hw hb1 HAA HGG HBA BK_g17
  have BK17 := BKK
  clear BKK
  have HS2 := Aside0.mk (HS.out.met hbw)
  have HO3 := Aside0.mk (HO2.out.met hbw)
  clear HS HO1 HO2 hbw
  have HS := HS2
  clear HS2
  go_upto_region 13 with (first | (go_at_call 22; refine (take_sec_at w13.heap.size gb cb 64 y2 b0 b1 b2 b3 b4 _ HO3.out Ny2.out (by decide) BBy2.out (HT.out.below (below_step HS0.out.2.2.2.2 HS.out.2.2.2.2)) (by rw [← Hy2.out, ← HX2.out]; exact sec_any _ hgc B hB)).mono ?_; rintro e w20 ⟨rfl, hb⟩; have HBA := Aside0.mk hb; clear hb) | ((with_reducible refine gate_dst (N := 19) rfl ?_); refine box_event ?hg (N := 19) ?hd (cs := #[.int .u32 0, .int .u64 0, .int .u64 0, .int .u32 0, .int .u64 0]) (t := 32) ?hr ?_; (case hd => rfl); (case hg => rfl); (case hr => first | (go_simp; done) | (go_simp; rfl)); intro g19 hg w21 hbox hb; have BK_g19 := Aside0.mk hbox; have HAA := Aside0.mk hb; have HGG := Aside0.mk hg; clear hg hbox hb) | (with_reducible refine wpList_store_row rfl 32 (.tmp 19) (.tmp 74) rfl g19 #[.int .u32 b0, .int .u64 b1, .int .u64 b2, .int .u32 b3, .int .u64 b4] rfl rfl 32 #[.int .u32 0, .int .u64 0, .int .u64 0, .int .u32 0, .int .u64 0] BK_g19.out (by kernel_rfl) rfl (by simp [Value.oneCell']) ?_))
  obtain ⟨w22, hw⟩ : ∃ w', w21.setRow g19 #[.int .u32 b0, .int .u64 b1, .int .u64 b2, .int .u32 b3, .int .u64 b4] = w' := ⟨_, rfl⟩
  have hb1 : Below w20.heap.size w20 w22 := by rw [← hw]; exact below_setRow HAA.out (Nat.le_of_eq HGG.out.symm) _
  have BKK := Aside0.mk (show w22.heap[g19]? = some (.cells #[.int .u32 b0, .int .u64 b1, .int .u64 b2, .int .u32 b3, .int .u64 b4] 32 (0, 0)) by rw [← hw]; exact setRow_heap _ _ _ _ _ _ BK_g19.out)
  have hbw := below_step HBA.out hb1
  rw [hw]
  clear hw hb1 HAA HGG HBA BK_g19
  have BK19 := BKK
  clear BKK
  have HS2 := Aside0.mk (HS.out.met hbw)
  have HB13 := Aside0.mk HS2.out.2.2.2.2
  have BK17b := Aside0.mk (heap_below hbw BK17.out)
  have HEND := Aside0.mk (below_step HS0.out.2.2.2.2 HB13.out)
  have HC11b := Aside0.mk (And.intro (Kd.C_below HC11.out.1 HB13.out) (Kd.C_below HC11.out.2.2.1 HB13.out))
  have HC13b := Aside0.mk (And.intro (Kd.C_below HC13.out.1 HB13.out) (Kd.C_below HC13.out.2.2.1 HB13.out))
  clear hbw
  have hz_g11_0 : w22.cell? ⟨g11, 0, none⟩ = some (.int .u64 a0) := (bC_ (heap_below HB13.out BK11.out) 0).trans rfl
  have hz_g11_1 : w22.cell? ⟨g11, 1, none⟩ = some (.int .u64 64) := (bC_ (heap_below HB13.out BK11.out) 1).trans rfl
  have hz_g11_2 : w22.cell? ⟨g11, 2, none⟩ = some (.int .u64 (64 + 56 * (S.length : Int))) := (bC_ (heap_below HB13.out BK11.out) 2).trans rfl
  have hz_g11_3 : w22.cell? ⟨g11, 3, none⟩ = some (.slice A5 S.length c5) := (bC_ (heap_below HB13.out BK11.out) 3).trans rfl
  have hz_g11_4 : w22.cell? ⟨g11, 4, none⟩ = some (.slice A6 C.length c6) := (bC_ (heap_below HB13.out BK11.out) 4).trans rfl
  have hz_g13_0 : w22.cell? ⟨g13, 0, none⟩ = some (.int .u64 a0) := (bC_ (heap_below HB13.out BK13.out) 0).trans rfl
  have hz_g13_1 : w22.cell? ⟨g13, 1, none⟩ = some (.int .u64 64) := (bC_ (heap_below HB13.out BK13.out) 1).trans rfl
  have hz_g13_2 : w22.cell? ⟨g13, 2, none⟩ = some (.int .u64 (64 + 56 * (S.length : Int))) := (bC_ (heap_below HB13.out BK13.out) 2).trans rfl
  have hz_g13_3 : w22.cell? ⟨g13, 3, none⟩ = some (.slice A7 S.length c7) := (bC_ (heap_below HB13.out BK13.out) 3).trans rfl
  have hz_g13_4 : w22.cell? ⟨g13, 4, none⟩ = some (.slice A8 C.length c8) := (bC_ (heap_below HB13.out BK13.out) 4).trans rfl
  have hz_g17_0 : w22.cell? ⟨g17, 0, none⟩ = some (.int .u32 s0) := (bC_ (BK17b.out) 0).trans rfl
  have hz_g17_1 : w22.cell? ⟨g17, 1, none⟩ = some (.int .u32 s1) := (bC_ (BK17b.out) 1).trans rfl
  have hz_g17_2 : w22.cell? ⟨g17, 2, none⟩ = some (.int .u64 s2) := (bC_ (BK17b.out) 2).trans rfl
  have hz_g17_3 : w22.cell? ⟨g17, 3, none⟩ = some (.int .u64 s3) := (bC_ (BK17b.out) 3).trans rfl
  have hz_g17_4 : w22.cell? ⟨g17, 4, none⟩ = some (.int .u64 s4) := (bC_ (BK17b.out) 4).trans rfl
  have hz_g17_5 : w22.cell? ⟨g17, 5, none⟩ = some (.int .u64 s5) := (bC_ (BK17b.out) 5).trans rfl
  have hz_g17_6 : w22.cell? ⟨g17, 6, none⟩ = some (.int .u64 s6) := (bC_ (BK17b.out) 6).trans rfl
  have hz_g5_0 : w22.cell? ⟨g5, 0, none⟩ = some (.int .u32 s0) := (bC_ (HS2.out.2.1) 0).trans rfl
  have hz_g5_1 : w22.cell? ⟨g5, 1, none⟩ = some (.int .u32 s1) := (bC_ (HS2.out.2.1) 1).trans rfl
  have hz_g5_2 : w22.cell? ⟨g5, 2, none⟩ = some (.int .u64 s2) := (bC_ (HS2.out.2.1) 2).trans rfl
  have hz_g5_3 : w22.cell? ⟨g5, 3, none⟩ = some (.int .u64 s3) := (bC_ (HS2.out.2.1) 3).trans rfl
  have hz_g5_4 : w22.cell? ⟨g5, 4, none⟩ = some (.int .u64 s4) := (bC_ (HS2.out.2.1) 4).trans rfl
  have hz_g5_5 : w22.cell? ⟨g5, 5, none⟩ = some (.int .u64 s5) := (bC_ (HS2.out.2.1) 5).trans rfl
  have hz_g5_6 : w22.cell? ⟨g5, 6, none⟩ = some (.int .u64 s6) := (bC_ (HS2.out.2.1) 6).trans rfl
  have hz_g19_0 : w22.cell? ⟨g19, 0, none⟩ = some (.int .u32 b0) := (bC_ (BK19.out) 0).trans rfl
  have hz_g19_1 : w22.cell? ⟨g19, 1, none⟩ = some (.int .u64 b1) := (bC_ (BK19.out) 1).trans rfl
  have hz_g19_2 : w22.cell? ⟨g19, 2, none⟩ = some (.int .u64 b2) := (bC_ (BK19.out) 2).trans rfl
  have hz_g19_3 : w22.cell? ⟨g19, 3, none⟩ = some (.int .u32 b3) := (bC_ (BK19.out) 3).trans rfl
  have hz_g19_4 : w22.cell? ⟨g19, 4, none⟩ = some (.int .u64 b4) := (bC_ (BK19.out) 4).trans rfl
  have hz_g6_0 : w22.cell? ⟨g6, 0, none⟩ = some (.int .u32 b0) := (bC_ (HS2.out.2.2.1) 0).trans rfl
  have hz_g6_1 : w22.cell? ⟨g6, 1, none⟩ = some (.int .u64 b1) := (bC_ (HS2.out.2.2.1) 1).trans rfl
  have hz_g6_2 : w22.cell? ⟨g6, 2, none⟩ = some (.int .u64 b2) := (bC_ (HS2.out.2.2.1) 2).trans rfl
  have hz_g6_3 : w22.cell? ⟨g6, 3, none⟩ = some (.int .u32 b3) := (bC_ (HS2.out.2.2.1) 3).trans rfl
  have hz_g6_4 : w22.cell? ⟨g6, 4, none⟩ = some (.int .u64 b4) := (bC_ (HS2.out.2.2.1) 4).trans rfl
  go_wp2_with (first | (go_at_call 12; refine (sundialref03_Same.calls 200 a0 64 (64 + 56 * (S.length : Int)) A5 c5 S A6 c6 C a0 64 (64 + 56 * (S.length : Int)) A7 c7 S A8 c8 C true _ HC11b.out.1 HC11.out.2.1 HC11b.out.2 HC11.out.2.2.2 HC13b.out.1 HC13.out.2.1 HC13b.out.2 HC13.out.2.2.2 (rsame_refl _ _ _ S C (by omega) (by omega) 200 (by omega))).mono ?_; rintro e w23 ⟨rfl, hb⟩; have HB23 := Aside0.mk hb; clear hb; have hy_g17_0 : w23.cell? ⟨g17, 0, none⟩ = some (.int .u32 s0) := (bC_ (heap_below HB23.out BK17b.out) 0).trans rfl; have hy_g17_1 : w23.cell? ⟨g17, 1, none⟩ = some (.int .u32 s1) := (bC_ (heap_below HB23.out BK17b.out) 1).trans rfl; have hy_g17_2 : w23.cell? ⟨g17, 2, none⟩ = some (.int .u64 s2) := (bC_ (heap_below HB23.out BK17b.out) 2).trans rfl; have hy_g17_3 : w23.cell? ⟨g17, 3, none⟩ = some (.int .u64 s3) := (bC_ (heap_below HB23.out BK17b.out) 3).trans rfl; have hy_g17_4 : w23.cell? ⟨g17, 4, none⟩ = some (.int .u64 s4) := (bC_ (heap_below HB23.out BK17b.out) 4).trans rfl; have hy_g17_5 : w23.cell? ⟨g17, 5, none⟩ = some (.int .u64 s5) := (bC_ (heap_below HB23.out BK17b.out) 5).trans rfl; have hy_g17_6 : w23.cell? ⟨g17, 6, none⟩ = some (.int .u64 s6) := (bC_ (heap_below HB23.out BK17b.out) 6).trans rfl; have hy_g5_0 : w23.cell? ⟨g5, 0, none⟩ = some (.int .u32 s0) := (bC_ (heap_below HB23.out HS2.out.2.1) 0).trans rfl; have hy_g5_1 : w23.cell? ⟨g5, 1, none⟩ = some (.int .u32 s1) := (bC_ (heap_below HB23.out HS2.out.2.1) 1).trans rfl; have hy_g5_2 : w23.cell? ⟨g5, 2, none⟩ = some (.int .u64 s2) := (bC_ (heap_below HB23.out HS2.out.2.1) 2).trans rfl; have hy_g5_3 : w23.cell? ⟨g5, 3, none⟩ = some (.int .u64 s3) := (bC_ (heap_below HB23.out HS2.out.2.1) 3).trans rfl; have hy_g5_4 : w23.cell? ⟨g5, 4, none⟩ = some (.int .u64 s4) := (bC_ (heap_below HB23.out HS2.out.2.1) 4).trans rfl; have hy_g5_5 : w23.cell? ⟨g5, 5, none⟩ = some (.int .u64 s5) := (bC_ (heap_below HB23.out HS2.out.2.1) 5).trans rfl; have hy_g5_6 : w23.cell? ⟨g5, 6, none⟩ = some (.int .u64 s6) := (bC_ (heap_below HB23.out HS2.out.2.1) 6).trans rfl; have hy_g19_0 : w23.cell? ⟨g19, 0, none⟩ = some (.int .u32 b0) := (bC_ (heap_below HB23.out BK19.out) 0).trans rfl; have hy_g19_1 : w23.cell? ⟨g19, 1, none⟩ = some (.int .u64 b1) := (bC_ (heap_below HB23.out BK19.out) 1).trans rfl; have hy_g19_2 : w23.cell? ⟨g19, 2, none⟩ = some (.int .u64 b2) := (bC_ (heap_below HB23.out BK19.out) 2).trans rfl; have hy_g19_3 : w23.cell? ⟨g19, 3, none⟩ = some (.int .u32 b3) := (bC_ (heap_below HB23.out BK19.out) 3).trans rfl; have hy_g19_4 : w23.cell? ⟨g19, 4, none⟩ = some (.int .u64 b4) := (bC_ (heap_below HB23.out BK19.out) 4).trans rfl; have hy_g6_0 : w23.cell? ⟨g6, 0, none⟩ = some (.int .u32 b0) := (bC_ (heap_below HB23.out HS2.out.2.2.1) 0).trans rfl; have hy_g6_1 : w23.cell? ⟨g6, 1, none⟩ = some (.int .u64 b1) := (bC_ (heap_below HB23.out HS2.out.2.2.1) 1).trans rfl; have hy_g6_2 : w23.cell? ⟨g6, 2, none⟩ = some (.int .u64 b2) := (bC_ (heap_below HB23.out HS2.out.2.2.1) 2).trans rfl; have hy_g6_3 : w23.cell? ⟨g6, 3, none⟩ = some (.int .u32 b3) := (bC_ (heap_below HB23.out HS2.out.2.2.1) 3).trans rfl; have hy_g6_4 : w23.cell? ⟨g6, 4, none⟩ = some (.int .u64 b4) := (bC_ (heap_below HB23.out HS2.out.2.2.1) 4).trans rfl) | (go_at_call 9; refine (sundiallaw03_wakes.calls true _ (HT.out.below (below_step HEND.out HB23.out)) wakes_f).mono ?_; rintro e w24 ⟨rfl, hb⟩; have HB24 := Aside0.mk hb; clear hb))
  go_ret
  exact ⟨rfl, below_step (below_step HEND.out HB23.out) HB24.out⟩
end Go.Proofs.YtopldeeojehklaaDoor.B
