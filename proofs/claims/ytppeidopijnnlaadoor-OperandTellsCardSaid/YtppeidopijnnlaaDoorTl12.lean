/- What operand.Take tells under another prefix, beside what it tells under none. What operand.Put tells is taken as it was, whatever stands behind; and less of it is nothing. What operand.Put tells is taken again as it was: the law of the two as numbers. The reference's Right says the same as the program's. The law OperandRight, of what its walk computes. -/
import Derived.Test.YtppeidopijnnlaaDoorTl4
import Derived.Test.YtppeidopijnnlaaDoorTl7
import Derived.Laws.BitsLemmas
import Derived.Test.YtppeidopijnnlaaDoorTl11
import Derived.Test.YtppeidopijnnlaaDoorTl10
namespace Go.Proofs.YtppeidopijnnlaaDoor.B
open Go.RowKit Go.Proofs.YtppeidopijnnlaaDoorW.PrintWords Go.Proofs.YtppeidopijnnlaaDoorW.PrintMore Go.RF
set_option linter.unusedVariables false
set_option linter.unusedSimpArgs false
end Go.Proofs.YtppeidopijnnlaaDoor.B
namespace Go.Proofs.YtppeidopijnnlaaDoor.B
open Go.RowKit Go.Proofs.YtppeidopijnnlaaDoorW.PrintWords Go.Proofs.YtppeidopijnnlaaDoorW.PrintMore Go.RF
set_option linter.unusedVariables false
set_option linter.unusedSimpArgs false
theorem wrap_i8 (n : Int) : IntKind.i8.wrap n = (n + 128) % 256 - 128 := by
  simp [IntKind.wrap, IntKind.bits, IntKind.signed]
  split <;> omega
theorem or_i64 (x y : Int) (hx : x % 256 = 0) (h0 : -9223372036854775808 ≤ x) (h1 : x < 9223372036854775808) (hy0 : 0 ≤ y) (hy : y < 256) : Go.bits .or .i64 x y = x + y := by
  obtain ⟨b, rfl⟩ := Int.eq_ofNat_of_zero_le hy0
  obtain ⟨a, ha⟩ := Int.eq_ofNat_of_zero_le (show 0 ≤ x % 18446744073709551616 by omega)
  have e1 : (BitVec.ofInt IntKind.i64.bits x).toNat = a := by
    rw [BitVec.toNat_ofInt]
    show (x % ((2 ^ 64 : Nat) : Int)).toNat = a
    rw [show ((2 ^ 64 : Nat) : Int) = 18446744073709551616 by decide]
    omega
  have e2 : (BitVec.ofInt IntKind.i64.bits (b : Int)).toNat = b := by
    rw [BitVec.toNat_ofInt]
    show ((b : Int) % ((2 ^ 64 : Nat) : Int)).toNat = b
    rw [show ((2 ^ 64 : Nat) : Int) = 18446744073709551616 by decide]
    omega
  have hor : a ||| b = a + b := by
    have hq : a = 2 ^ 8 * (a / 2 ^ 8) := by
      have : a % 256 = 0 := by omega
      omega
    rw [hq, ← Nat.two_pow_add_eq_or_of_lt (show b < 2 ^ 8 by omega) (a / 2 ^ 8)]
  simp only [Go.bits, BitVec.toNat_or, e1, e2, hor]
  rw [IntKind.wrap_i64]
  push_cast
  omega
theorem disp4 (x0 x1 x2 x3 : Int) (h0 : 0 ≤ x0 ∧ x0 < 256) (h1 : 0 ≤ x1 ∧ x1 < 256) (h2 : 0 ≤ x2 ∧ x2 < 256) (h3 : 0 ≤ x3 ∧ x3 < 256) :
    dispOf 4 [x0, x1, x2, x3] = ((x3 + 128) % 256 - 128) * 16777216 + x2 * 65536 + x1 * 256 + x0 := by
  have hd : ∀ d x : Int, -140737488355328 ≤ d → d ≤ 140737488355328 → 0 ≤ x → x < 256 → Go.bits .or .i64 (wrap64 (d * 256)) x = d * 256 + x := by
    intro d x a b c e
    have hw : wrap64 (d * 256) = d * 256 := by unfold wrap64; omega
    rw [hw]
    exact or_i64 _ _ (by omega) (by omega) (by omega) c e
  have hw : wrap64 (IntKind.i8.wrap x3) = (x3 + 128) % 256 - 128 := by rw [wrap_i8]; unfold wrap64; omega
  show dispStep 4 (dispStep 4 (dispStep 4 (dispStep 4 0 (3, x3)) (2, x2)) (1, x1)) (0, x0) = _
  have s3 : dispStep 4 0 (3, x3) = wrap64 (IntKind.i8.wrap x3) := if_pos (show ((3 : Nat) : Int) = 4 - 1 by decide)
  have s : ∀ (d : Int) (n : Nat) (x : Int), n < 3 → dispStep 4 d (n, x) = Go.bits .or .i64 (wrap64 (d * 256)) x := fun d n x h => if_neg (by show ¬ ((n : Int) = 4 - 1); omega)
  rw [s3, s _ 2 _ (by decide), s _ 1 _ (by decide), s _ 0 _ (by decide), hw]
  rw [hd _ x2 (by omega) (by omega) h2.1 h2.2, hd _ x1 (by omega) (by omega) h1.1 h1.2, hd _ x0 (by omega) (by omega) h0.1 h0.2]
  omega
theorem byteAt_eq (dp : Int) (j : Nat) : byteAt dp j = dp / 2 ^ (8 * j) % 256 := by unfold byteAt; rw [IntKind.wrap_u8]
theorem fits32 (dp : Int) : wrap64 (wrap32 dp) = dp ↔ -2147483648 ≤ dp ∧ dp < 2147483648 := by
  unfold wrap64 wrap32
  omega
theorem fits8 (dp : Int) : wrap64 (IntKind.i8.wrap dp) = dp ↔ -128 ≤ dp ∧ dp < 128 := by
  rw [wrap_i8]
  unfold wrap64
  omega
theorem low_cases : ∀ r : Fin 16, lowF (r.val : Int) = (r.val : Int) % 8 ∧ highF (r.val : Int) = (r.val : Int) / 8 := by decide +kernel
theorem fin_of {n : Nat} {P : Int → Prop} (h : ∀ r : Fin n, P (r.val : Int)) (x : Int) (h0 : 0 ≤ x) (h1 : x < n) : P x := by
  have e := h ⟨x.toNat, by omega⟩
  have : (((⟨x.toNat, by omega⟩ : Fin n).val : Nat) : Int) = x := by show ((x.toNat : Nat) : Int) = x; omega
  rw [this] at e
  exact e
theorem low_high (r : Int) (h0 : 0 ≤ r) (h1 : r < 16) : lowF r = r % 8 ∧ highF r = r / 8 := fin_of (n := 16) (P := fun r => lowF r = r % 8 ∧ highF r = r / 8) low_cases r h0 h1
theorem tzN_lt (s : Int) : 0 ≤ tzN s ∧ tzN s < 4 := by unfold tzN; repeat' split <;> omega
end Go.Proofs.YtppeidopijnnlaaDoor.B
namespace Go.Proofs.YtppeidopijnnlaaDoor.B
open Go.RowKit Go.Proofs.YtppeidopijnnlaaDoorW.PrintWords Go.Proofs.YtppeidopijnnlaaDoorW.PrintMore Go.RF
set_option linter.unusedVariables false
set_option linter.unusedSimpArgs false
theorem dispB_len (dp : Int) (n : Nat) : (dispB dp n).length = n := by simp [dispB]
end Go.Proofs.YtppeidopijnnlaaDoor.B
namespace Go.Proofs.YtppeidopijnnlaaDoor.C
open Go.RowKit Go.Proofs.YtppeidopijnnlaaDoorW.PrintWords Go.Proofs.YtppeidopijnnlaaDoorW.PrintLast Go.Proofs.YtppeidopijnnlaaDoorW.PrintMore Go.RF
set_option linter.unusedVariables false
set_option linter.unusedSimpArgs false
theorem ref_iff (n : Nat) (k R base idx sc dp : Int) (rip : Bool) (im : Int) : ∃ b, r8_Right.f (n + 2) k R base idx sc dp rip im = some b ∧ (b = true ↔ B.RightP k R base idx sc dp rip im) := by
  have jt : r8_Right.j0 (n + 2) true k R base idx sc dp rip im = some false := by simp only [r8_Right.j0, if_true]
  have jf : r8_Right.j1 (n + 1) true k R base idx sc dp rip im = some false := by simp only [r8_Right.j1, if_true]
  unfold r8_Right.f B.RightP
  rw [B.fits32]
  by_cases h1 : k = 1
  · subst h1
    rw [if_pos rfl]
    simp only [r8_Reg.f, Option.bind_some]
    split
    · rename_i hb
      simp at hb
      by_cases a : R ≥ 0
      · rw [if_pos a]
        refine ⟨_, rfl, ?_⟩
        rw [decide_eq_true_iff]
        constructor
        · intro h
          exact .inl ⟨by trivial, a, h, hb⟩
        · rintro (⟨-, -, h, -⟩ | ⟨h, -⟩)
          · exact h
          · exact absurd h (by decide)
      · rw [if_neg a]
        refine ⟨_, rfl, ?_⟩
        simp
        omega
    · rename_i hb
      simp at hb
      refine ⟨_, rfl, ?_⟩
      constructor
      · intro h; cases h
      · rintro (⟨-, -, -, e1, e2, e3, e4, e5, e6⟩ | ⟨h, -⟩)
        · exact absurd e6 (hb e1 e2 e3 e4 e5)
        · exact absurd h (by decide)
  rw [if_neg h1]
  by_cases h2 : k = 2
  · subst h2
    rw [if_pos rfl, jt]
    by_cases hR : R = 0
    · rw [if_pos hR]
      by_cases hi : im = 0
      · rw [if_pos hi]
        by_cases hd : dp < -2147483648
        · rw [if_pos hd]
          refine ⟨_, rfl, ?_⟩
          simp
          omega
        rw [if_neg hd]
        by_cases hd2 : dp ≥ 2147483648
        · rw [decide_eq_true hd2, jt]
          refine ⟨_, rfl, ?_⟩
          simp
          omega
        rw [decide_eq_false hd2]
        rw [r8_Right.j0, if_neg (by decide)]
        cases rip
        · rw [if_neg (by decide)]
          rw [jf]
          by_cases a1 : base < -1
          · rw [if_pos a1]; exact ⟨_, rfl, by simp; omega⟩
          rw [if_neg a1]
          by_cases a2 : base > 15
          · rw [if_pos a2]; exact ⟨_, rfl, by simp; omega⟩
          rw [if_neg a2]
          by_cases a3 : idx < -1
          · rw [if_pos a3]; exact ⟨_, rfl, by simp; omega⟩
          rw [if_neg a3]
          by_cases a4 : idx > 15
          · rw [if_pos a4]; exact ⟨_, rfl, by simp; omega⟩
          rw [if_neg a4]
          by_cases a5 : idx = 4
          · rw [show (idx == 4) = true by simp [a5], jf]; exact ⟨_, rfl, by simp; omega⟩
          rw [show (idx == 4) = false by simp [a5], r8_Right.j1, if_neg (by decide)]
          by_cases a6 : idx < 0
          · rw [if_pos a6]; exact ⟨_, rfl, by simp; omega⟩
          rw [if_neg a6]
          by_cases s1 : sc = 1
          · rw [if_pos s1]; exact ⟨_, rfl, by simp; omega⟩
          rw [if_neg s1]
          by_cases s2 : sc = 2
          · rw [if_pos s2]; exact ⟨_, rfl, by simp; omega⟩
          rw [if_neg s2]
          by_cases s4 : sc = 4
          · rw [if_pos s4]; exact ⟨_, rfl, by simp; omega⟩
          rw [if_neg s4]
          exact ⟨_, rfl, by simp; omega⟩
        · rw [if_pos rfl]
          by_cases a1 : base = -1
          · rw [if_pos a1]
            by_cases a2 : idx = -1
            · rw [if_pos a2]; exact ⟨_, rfl, by simp; omega⟩
            · rw [if_neg a2]; exact ⟨_, rfl, by simp; omega⟩
          · rw [if_neg a1]; exact ⟨_, rfl, by simp; omega⟩
      · rw [if_neg hi]; exact ⟨_, rfl, by simp [hi]⟩
    · rw [if_neg hR]; exact ⟨_, rfl, by simp [hR]⟩
  · rw [if_neg h2, jt]
    exact ⟨_, rfl, by simp [h1, h2]⟩
theorem refRight (n : Nat) (k R base idx sc dp : Int) (rip : Bool) (im : Int) : r8_Right.f (n + 2) k R base idx sc dp rip im = some (B.rightF k R base idx sc dp rip im) := by
  obtain ⟨b, hb, h⟩ := ref_iff n k R base idx sc dp rip im
  rw [hb]
  have h2 := B.rightF_iff k R base idx sc dp rip im
  congr 1
  rw [Bool.eq_iff_iff, h, h2]
theorem wakes_f : l8_wakes.f = some true := by
  show G.Wakes = _
  unfold G.Wakes
  have a1 : B.operand_Take.f [193] 0 = some (0, 1, 1, -1, -1, 0, 0, false, 0, 1, 0) := by show B.G.Take _ _ = _; rw [B.G.Take_eq]; exact B.take_c1
  have a2 : B.operand_Take.f [68, 36, 8, 99] 0 = some (0, 2, 0, 4, -1, 1, 8, false, 0, 3, 0) := by show B.G.Take _ _ = _; rw [B.G.Take_eq]; exact B.take_c2
  have a3 : B.operand_Take.f [] 0 = some (0, 0, 0, 0, 0, 0, 0, false, 0, 0, 80) := by show B.G.Take _ _ = _; rw [B.G.Take_eq]; exact B.take_c3
  have m : B.operand_Mem.f 4 8 = some (2, 0, 4, -1, 1, 8, false, 0) := by kernel_rfl
  have r : B.operand_Reg.f 1 = some (1, 1, -1, -1, 0, 0, false, 0) := by kernel_rfl
  have p0 : B.G.Put 9 2 0 4 (-1) 1 8 false 0 = some ([76, 36, 8], 4, 0) := by rw [B.G.Put_eq]; kernel_rfl
  have p : B.operand_Put.f 9 2 0 4 (-1) 1 8 false 0 = some ([76, 36, 8], 4, 0) := p0
  have c := B.wkC16 p0
  unfold B.l8_wakes.f
  simp only [a1, a2, a3, m, r, p, c, Option.bind_some]
  simp
theorem put_f (reg k R base idx sc dp : Int) (rip : Bool) (im : Int) : operand_Put.f reg k R base idx sc dp rip im = some (B.putF reg k R base idx sc dp rip im) := by
  show G.Put reg k R base idx sc dp rip im = _
  rw [G.Put_eq]
  rfl
end Go.Proofs.YtppeidopijnnlaaDoor.C
namespace Go.Proofs.YtppeidopijnnlaaDoor.C
open Go.RowKit Go.Proofs.YtppeidopijnnlaaDoorW.PrintWords Go.Proofs.YtppeidopijnnlaaDoorW.PrintLast Go.Proofs.YtppeidopijnnlaaDoorW.PrintMore
attribute [local go_sem] max2_int min2_int max_two min_two max_three min_three max_four min_four   -- for this text's walks alone
set_option linter.unusedVariables false
set_option linter.unusedSimpArgs false
attribute [local go_sem high] eqA23
end Go.Proofs.YtppeidopijnnlaaDoor.C
namespace Go.Proofs.YtppeidopijnnlaaDoor.C
open Go.RowKit Go.Proofs.YtppeidopijnnlaaDoorW.PrintWords Go.Proofs.YtppeidopijnnlaaDoorW.PrintLast Go.Proofs.YtppeidopijnnlaaDoorW.PrintMore Go.RF
set_option linter.unusedVariables false
set_option linter.unusedSimpArgs false
theorem wf_u8 {x : Int} (h : (Lit.int .u8 x).wf = true) : 0 ≤ x ∧ x < 256 := by
  have h' : IntKind.u8.min ≤ x ∧ x ≤ IntKind.u8.max := by simpa [Lit.wf] using h
  have e1 : IntKind.u8.min = 0 := rfl
  have e2 : IntKind.u8.max = 255 := rfl
  omega
theorem take_f (l : List Int) (a : Int) (hl : ∀ y ∈ l, 0 ≤ y ∧ y < 256) (h0 : 0 ≤ a) (h1 : a < 256) : operand_Take.f l a = some (B.takeF l a) := by
  show B.G.Take l a = _
  rw [B.G.Take_eq]
  unfold B.takeO
  rw [if_pos ⟨hl, h0, h1⟩]
theorem mo_in (a : Int) (h0 : 0 ≤ a) (h1 : a < 256) : B.mo a = 0 ∨ B.mo a = 8 := by rw [B.mo_eq a h0 h1]; omega
end Go.Proofs.YtppeidopijnnlaaDoor.C
namespace Go.Proofs.YtppeidopijnnlaaDoor.C
open Go.RowKit Go.Proofs.YtppeidopijnnlaaDoorW.PrintWords Go.Proofs.YtppeidopijnnlaaDoorW.PrintLast Go.Proofs.YtppeidopijnnlaaDoorW.PrintMore
attribute [local go_sem] max2_int min2_int max_two min_two max_three min_three max_four min_four   -- for this text's walks alone
set_option linter.unusedVariables false
set_option linter.unusedSimpArgs false
attribute [local go_sem high] eqA23
noncomputable def r8_Mem.f (a0 : Int) (a1 : Int) : Option (Int × Int × Int × Int × Int × Int × Bool × Int) := some (2, 0, mx a0 (-1), (-1), 1, a1, false, 0)
set_option maxHeartbeats 8000000 in
set_option maxRecDepth 100000 in
theorem r8_Mem.calls (a0 : Int) (a1 : Int) (r1 : Int) (r2 : Int) (r3 : Int) (r4 : Int) (r5 : Int) (r6 : Int) (r7 : Bool) (r8 : Int) (w : World) (h : r8_Mem.f a0 a1 = some (r1, r2, r3, r4, r5, r6, r7, r8)) :
    Calls Tryd.prog 22 #[.int .i64 a0, .int .i64 a1] w fun e w' => e = .returned (.agg #[.int .u8 r1, .int .i64 r2, .int .i64 r3, .int .i64 r4, .int .i64 r5, .int .i64 r6, .bool r7, .int .i64 r8]) ∧ Below w.heap.size w w' := by
  have hu23 := Tryd.underlying23
  have HB := Aside0.mk (Below.refl w.heap.size w)
  have H : (some (2, 0, mx a0 (-1), (-1), 1, a1, false, 0)) = some (r1, r2, r3, r4, r5, r6, r7, r8) := h
  clear h
  obtain ⟨ji3, hji3⟩ : ∃ j_ : Int, (mx a0 (-1)) = j_ := ⟨_, rfl⟩
  replace H : (some (2, 0, ji3, (-1), 1, a1, false, 0)) = some (r1, r2, r3, r4, r5, r6, r7, r8) := by first | (rw [hji3] at H; exact H) | (simp only [hji3] at H ⊢; exact H)
  have hji3_ : (if a0 < (-1) then (-1) else a0) = ji3 := hji3
  simp only [Option.some.injEq, Prod.mk.injEq] at H
  obtain ⟨rfl, rfl, rfl, rfl, rfl, rfl, rfl, rfl⟩ := H
  go_enter Tryd.func22, Tryd.ntmps22
  go_wp2_with (first | ((with_reducible refine gate_dst (N := 4) rfl ?_); refine box_event ?hg (N := 4) ?hd (cs := #[.int .u8 0, .int .i64 0, .int .i64 0, .int .i64 0, .int .i64 0, .int .i64 0, .bool false, .int .i64 0]) (t := 23) ?hr ?_; (case hd => rfl); (case hg => rfl); (case hr => first | (go_simp; done) | (go_simp; rfl)); intro gb172 hg w4 hbox hb; have n0_ := Aside0.mk (below_step (by repeat (first | (with_reducible first | exact HB.out | apply bX_ | apply bW_ | apply bY_) | exact HB.out)) hb); have n1_ := Aside0.mk (hbox); have n2_ := Aside0.mk ((by rw [hg]; exact (below_size (by repeat (first | (with_reducible first | exact HB.out | apply bX_ | apply bW_ | apply bY_) | exact HB.out))) : w.heap.size ≤ gb172)); have n3_ := Aside0.mk ((by rw [hg]; exact (below_size (by repeat (first | (with_reducible first | exact HB.out | apply bX_ | apply bW_ | apply bY_) | exact HB.out))) : w.heap.size ≤ gb172)); clear HB; have HB := n0_; have BK172 := n1_; have GW172 := n2_; have GE172 := n3_; clear n0_ n1_ n2_ n3_; clear hb hbox hg; have hcz5_0 : w4.cell? ⟨gb172, 0, none⟩ = some (.int .u8 0) := (bC_ BK172.out 0).trans rfl; have hcz5_1 : w4.cell? ⟨gb172, 1, none⟩ = some (.int .i64 0) := (bC_ BK172.out 1).trans rfl; have hcz5_2 : w4.cell? ⟨gb172, 2, none⟩ = some (.int .i64 0) := (bC_ BK172.out 2).trans rfl; have hcz5_3 : w4.cell? ⟨gb172, 3, none⟩ = some (.int .i64 0) := (bC_ BK172.out 3).trans rfl; have hcz5_4 : w4.cell? ⟨gb172, 4, none⟩ = some (.int .i64 0) := (bC_ BK172.out 4).trans rfl; have hcz5_5 : w4.cell? ⟨gb172, 5, none⟩ = some (.int .i64 0) := (bC_ BK172.out 5).trans rfl; have hcz5_6 : w4.cell? ⟨gb172, 6, none⟩ = some (.bool false) := (bC_ BK172.out 6).trans rfl; have hcz5_7 : w4.cell? ⟨gb172, 7, none⟩ = some (.int .i64 0) := (bC_ BK172.out 7).trans rfl; have hfz5_0 := bF_ BK172.out 0; have hfz5_1 := bF_ BK172.out 1; have hfz5_2 := bF_ BK172.out 2; have hfz5_3 := bF_ BK172.out 3; have hfz5_4 := bF_ BK172.out 4; have hfz5_5 := bF_ BK172.out 5; have hfz5_6 := bF_ BK172.out 6; have hfz5_7 := bF_ BK172.out 7))
  refine bodyPost_ret (results_cell_row rfl _ _ gb172 23 #[.int .u8 2, .int .i64 0, .int .i64 ji3, .int .i64 (-1), .int .i64 1, .int .i64 a1, .bool false, .int .i64 0] (0, 0) _ rfl (by (with_reducible repeat (first | refine bN_ ?_ _ | refine bD_ ?_ | refine bA_ ?_ _)); refine blk_put (cs := #[.int .u8 2, .int .i64 0, .int .i64 ji3, .int .i64 (-1), .int .i64 1, .int .i64 a1, .bool false, .int .i64 0]) ?_ 7 _ rfl; (with_reducible repeat (first | refine bN_ ?_ _ | refine bD_ ?_ | refine bA_ ?_ _)); refine blk_put (cs := #[.int .u8 2, .int .i64 0, .int .i64 ji3, .int .i64 (-1), .int .i64 1, .int .i64 a1, .bool false, .int .i64 0]) ?_ 6 _ rfl; (with_reducible repeat (first | refine bN_ ?_ _ | refine bD_ ?_ | refine bA_ ?_ _)); refine blk_put (cs := #[.int .u8 2, .int .i64 0, .int .i64 ji3, .int .i64 (-1), .int .i64 1, .int .i64 0, .bool false, .int .i64 0]) ?_ 5 _ rfl; (with_reducible repeat (first | refine bN_ ?_ _ | refine bD_ ?_ | refine bA_ ?_ _)); refine blk_put (cs := #[.int .u8 2, .int .i64 0, .int .i64 ji3, .int .i64 (-1), .int .i64 0, .int .i64 0, .bool false, .int .i64 0]) ?_ 4 _ rfl; (with_reducible repeat (first | refine bN_ ?_ _ | refine bD_ ?_ | refine bA_ ?_ _)); refine blk_put (cs := #[.int .u8 2, .int .i64 0, .int .i64 ji3, .int .i64 0, .int .i64 0, .int .i64 0, .bool false, .int .i64 0]) ?_ 3 _ rfl; (with_reducible repeat (first | refine bN_ ?_ _ | refine bD_ ?_ | refine bA_ ?_ _)); refine blk_put (cs := #[.int .u8 2, .int .i64 0, .int .i64 0, .int .i64 0, .int .i64 0, .int .i64 0, .bool false, .int .i64 0]) ?_ 2 _ rfl; (with_reducible repeat (first | refine bN_ ?_ _ | refine bD_ ?_ | refine bA_ ?_ _)); refine blk_put (cs := #[.int .u8 2, .int .i64 0, .int .i64 0, .int .i64 0, .int .i64 0, .int .i64 0, .bool false, .int .i64 0]) ?_ 1 _ rfl; (with_reducible repeat (first | refine bN_ ?_ _ | refine bD_ ?_ | refine bA_ ?_ _)); refine blk_put (cs := #[.int .u8 0, .int .i64 0, .int .i64 0, .int .i64 0, .int .i64 0, .int .i64 0, .bool false, .int .i64 0]) ?_ 0 _ rfl; (with_reducible repeat (first | refine bN_ ?_ _ | refine bD_ ?_ | refine bA_ ?_ _)); exact BK172.out) Tryd.underlying23 rfl (by kernel_rfl)) rfl ?_
  exact ⟨by first | rfl | (simp [errW_none, errW_some] <;> rfl) | (simp only [← hji3]; first | rfl | (simp [errW_none, errW_some] <;> rfl)) | (simp [*, errW_none, errW_some] <;> rfl), by repeat (first | (with_reducible first | exact HB.out | apply bX_ | apply bW_ | apply bY_ | refine bS_ ?_ GE172.out) | exact HB.out)⟩
noncomputable def r8_number.l0 : Nat → List Int → Int → Int → Int → Option (Int × Bool)
  | 0, _, _, _, _ => none
  | k + 1, x0, x1, x6, x7 => if x7 < x1 then (if 0 ≤ x7 then (if x7 < (x0.length : Int) then (if 0 ≤ (IntKind.u64.wrap (wrap64 (8 * x7))) then (r8_number.l0 k x0 x1 (Go.bits .or .u32 x6 (shl .u32 ((rd x0 x7) % 4294967296) (IntKind.u64.wrap (wrap64 (8 * x7))))) (wrap64 (x7 + 1))) else (none)) else (none)) else (none)) else (some (wrap64 (wrap32 (x6)), true))
noncomputable def r8_number.f (k : Nat) (l0 : List Int) (a1 : Int) : Option (Int × Bool) := if (l0.length : Int) < a1 then (some (0, false)) else (if a1 = 1 then (if 0 < (l0.length : Int) then (some (wrap64 (IntKind.i8.wrap (rd l0 0)), true)) else (none)) else (r8_number.l0 k l0 a1 0 0))
set_option maxHeartbeats 8000000 in
set_option maxRecDepth 100000 in
theorem r8_number.calls (k : Nat) (A0 : Option Addr) (c0 : Nat) (l0 : List Int) (a1 : Int) (r1 : Int) (r2 : Bool) (w : World) (hr0 : Kd.C (Kd.int .u8) w A0 l0.length l0) (hc0 : l0.length ≤ c0) (h : r8_number.f k l0 a1 = some (r1, r2)) :
    Calls Tryd.prog 30 #[.slice A0 l0.length c0, .int .i64 a1] w fun e w' => e = .returned (.tuple #[.int .i64 r1, .bool r2]) ∧ Drawn0 w w' := by
  have HR0 := Aside0.mk hr0
  have HC0 := Aside0.mk hc0
  clear hr0 hc0
  have H : (if (l0.length : Int) < a1 then (some (0, false)) else (if a1 = 1 then (if 0 < (l0.length : Int) then (some (wrap64 (IntKind.i8.wrap (rd l0 0)), true)) else (none)) else (r8_number.l0 k l0 a1 0 0))) = some (r1, r2) := h
  clear h
  by_cases c3 : (l0.length : Int) < a1
  · rw [if_pos c3] at H
    have c3b0 : decide ((l0.length : Int) < a1) = true := decide_eq_true c3
    clear c3
    simp only [Option.some.injEq, Prod.mk.injEq] at H
    obtain ⟨rfl, rfl⟩ := H
    go_enter Tryd.func30, Tryd.ntmps30
    go_wp2
    go_ret2
    exact ⟨by first | rfl | (simp; done) | (simp [*]; done), by repeat (first | exact Drawn0.refl _ | apply Drawn0.step)⟩
  · rw [if_neg c3] at H
    have c3b0 : decide ((l0.length : Int) < a1) = false := decide_eq_false c3
    clear c3
    by_cases c4 : a1 = 1
    · rw [if_pos c4] at H
      have c4b0 : (a1 == 1) = true := beq_iff_eq.mpr c4
      have c4b1 : (a1 != 1) = false := bne_eq_false_iff_eq.mpr c4
      clear c4
      by_cases c5 : 0 < (l0.length : Int)
      · rw [if_pos c5] at H
        have c5b0 : decide (0 < (l0.length : Int)) = true := decide_eq_true c5
        have c5b1 : decide (0 < l0.length) = true := decide_eq_true (by omega)
        clear c5
        simp only [Option.some.injEq, Prod.mk.injEq] at H
        obtain ⟨rfl, rfl⟩ := H
        have p173 : 0 ≤ (0 : Int) := (by omega)
        have q173 : 0 < (l0.length : Int) := of_decide_eq_true (by first | (with_reducible assumption) | assumption)
        obtain ⟨ad173, e173, hx173_0⟩ := Kd.at_int HR0.out 0 p173 q173
        cases e173
        have qi173 : (0 < l0.length) = True := eq_true (by omega)
        (try rw [show ((0 : Int)).toNat = 0 from rfl] at hx173_0)
        (try rw [Addr.add_zero'] at hx173_0)
        replace p173 := eq_true p173
        replace q173 := eq_true q173
        go_enter Tryd.func30, Tryd.ntmps30
        go_wp2
        go_ret2
        exact ⟨by first | rfl | (simp; done) | (simp [*]; done), by repeat (first | exact Drawn0.refl _ | apply Drawn0.step)⟩
      · rw [if_neg c5] at H
        exact absurd H (by simp)
    · rw [if_neg c4] at H
      have c4b0 : (a1 == 1) = false := beq_eq_false_iff_ne.mpr c4
      have c4b1 : (a1 != 1) = true := bne_iff_ne.mpr c4
      have H' := Aside0.mk H
      clear H
      go_enter Tryd.func30, Tryd.ntmps30
      go_wp2
      go_loopg [6, 7] k (fun kq v6 v7 w' => ∃ (x6_1 : Int) (x7_1 : Int), v6 = .int .u32 x6_1 ∧ v7 = .int .i64 x7_1 ∧ Aside0 (r8_number.l0 kq l0 a1 x6_1 x7_1 = some (r1, r2)) ∧ Aside0 (kq ≤ k) ∧ Drawn0 w w')
      case atStart => exact ⟨(0), (0), (by first | rfl | (simp; done) | (simp [*]; done)), (by first | rfl | (simp; done) | (simp [*]; done)), H', ⟨Nat.le_refl _⟩, by repeat (first | exact Drawn0.refl _ | apply Drawn0.step)⟩
      case round =>
        clear H'
        (try clear p1); (try clear q1); (try clear hx1); (try clear qi1); (try clear p2); (try clear c3); (try clear c3b0); (try clear c4); (try clear c4b0); (try clear c4b1); (try clear c5); (try clear c5b0); (try clear c5b1); (try clear hx173_0); (try clear p173); (try clear q173)
        obtain ⟨x6_1, x7_1, rfl, rfl, HA, HK1, ⟨m1, rfl⟩⟩ := hrel
        cases gk with
        | zero => exact absurd HA.out (by simp [r8_number.l0])
        | succ k1 =>
          have H := HA.out
          clear HA
          simp only [r8_number.l0] at H
          by_cases c6 : x7_1 < a1
          · rw [if_pos c6] at H
            have c6b0 : decide (x7_1 < a1) = true := decide_eq_true c6
            clear c6
            by_cases c7 : 0 ≤ x7_1
            · rw [if_pos c7] at H
              have c7b0 : decide (0 ≤ x7_1) = true := decide_eq_true c7
              clear c7
              by_cases c8 : x7_1 < (l0.length : Int)
              · rw [if_pos c8] at H
                have c8b0 : decide (x7_1 < (l0.length : Int)) = true := decide_eq_true c8
                clear c8
                obtain ⟨ji9, hji9⟩ : ∃ j_ : Int, (IntKind.u64.wrap (wrap64 (8 * x7_1))) = j_ := ⟨_, rfl⟩
                replace H : (if 0 ≤ (ji9) then (r8_number.l0 k1 l0 a1 (Go.bits .or .u32 x6_1 (shl .u32 ((rd l0 x7_1) % 4294967296) (ji9))) (wrap64 (x7_1 + 1))) else (none)) = some (r1, r2) := by first | (rw [hji9] at H; exact H) | (simp only [hji9] at H ⊢; exact H)
                by_cases c10 : 0 ≤ (ji9)
                · rw [if_pos c10] at H
                  have c10b0 := eq_true c10
                  have c10b1 : decide (0 ≤ (ji9)) = true := decide_eq_true c10
                  clear c10
                  obtain ⟨ji11, hji11⟩ : ∃ j_ : Int, (shl .u32 ((rd l0 x7_1) % 4294967296) (ji9)) = j_ := ⟨_, rfl⟩
                  replace H : (r8_number.l0 k1 l0 a1 (Go.bits .or .u32 x6_1 (ji11)) (wrap64 (x7_1 + 1))) = some (r1, r2) := by first | (rw [hji11] at H; exact H) | (simp only [hji11] at H ⊢; exact H)
                  have hji11_ : (IntKind.u32.wrap (((rd l0 x7_1) % 4294967296) * 2 ^ min (ji9).toNat 32)) = ji11 := hji11
                  have hji11z : (ji9) ≤ 32 → (IntKind.u32.wrap (((rd l0 x7_1) % 4294967296) * 2 ^ (ji9).toNat)) = ji11 := shl_small hji11
                  have H' := Aside0.mk H
                  clear H
                  have p174 : 0 ≤ (x7_1 : Int) := of_decide_eq_true (by first | (with_reducible assumption) | assumption)
                  have q174 : x7_1 < (l0.length : Int) := of_decide_eq_true (by first | (with_reducible assumption) | assumption)
                  obtain ⟨ad174, e174, hx174_0⟩ := Kd.at_int HR0.out x7_1 p174 q174
                  cases e174
                  replace p174 := eq_true p174
                  replace q174 := eq_true q174
                  go_wp2
                  go_roundg k1
                  case measure => have := HK1.out; omega
                  case rel => exact ⟨(Go.bits .or .u32 x6_1 (ji11)), (wrap64 (x7_1 + 1)), (by first | rfl | (simp; done) | (simp only [← hji11] <;> (first | rfl | simp)) | (simp [*]; done)), (by first | rfl | (simp; done) | (simp [*]; done)), H', ⟨by have := HK1.out; omega⟩, by repeat (first | exact Drawn0.refl _ | apply Drawn0.step)⟩
                · rw [if_neg c10] at H
                  exact absurd H (by simp)
              · rw [if_neg c8] at H
                exact absurd H (by simp)
            · rw [if_neg c7] at H
              exact absurd H (by simp)
          · rw [if_neg c6] at H
            have c6b0 : decide (x7_1 < a1) = false := decide_eq_false c6
            clear c6
            simp only [Option.some.injEq, Prod.mk.injEq] at H
            obtain ⟨rfl, rfl⟩ := H
            go_wp2
            go_ret2
            exact ⟨by first | rfl | (simp; done) | (simp [*]; done), by repeat (first | exact Drawn0.refl _ | apply Drawn0.step)⟩
end Go.Proofs.YtppeidopijnnlaaDoor.C
