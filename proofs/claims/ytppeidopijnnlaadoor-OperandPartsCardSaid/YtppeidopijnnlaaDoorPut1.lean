/- operand.Put at one constant operand (a register 9, memory at a base 4, 8 on). -/
import Derived.Test.YtppeidopijnnlaaDoorNum
import Derived.Test.YtppeidopijnnlaaDoorBx3
import Derived.Test.YtppeidopijnnlaaDoorBx4
namespace Go.Proofs.YtppeidopijnnlaaDoor.B
open Go.RowKit Go.Proofs.YtppeidopijnnlaaDoorW.PrintWords Go.Proofs.YtppeidopijnnlaaDoorW.PrintMore Go.RF
set_option linter.unusedVariables false
set_option linter.unusedSimpArgs false
attribute [local go_sem] Oper.semAt_some
theorem results9 : Tryd.f9.results = #[.cell 4 24, .tmp 5, .tmp 6] := rfl
theorem results_put {T : Array Value} {W : World} {b : Nat} {v : Value} (h : W.heap[b]? = some (.cells #[v] 24 (0, 0))) (ht : T.getD 4 undef = .pointer (some ⟨b, 0, none⟩)) :
    (results Tryd.f9 T).run Tryd.prog W = .ok (.tuple #[v, T.getD 5 undef, T.getD 6 undef]) W := by
  have q := (cell_of_block h).1
  have hu24 := Tryd.underlying24
  have ht1 : T[4]?.getD undef = .pointer (some ⟨b, 0, none⟩) := by rw [← ht]; simp
  simp only [results, results9]
  simp [go_sem, ht1, q]
theorem dispB1 : dispB 8 1 = [8] := by decide +kernel
theorem right1 : operand_Right.f 1 2 0 4 (-1) 1 8 false 0 = some true := by decide +kernel
theorem form1 : operand_form.f 1 2 0 4 (-1) 1 8 false 0 = some (1, 1) := by decide +kernel
theorem low9 : operand_low.f 9 = some 1 := by decide +kernel
theorem low4 : operand_low.f 4 = some 4 := by decide +kernel
theorem high9 : operand_high.f 9 = some 1 := by decide +kernel
theorem high4 : operand_high.f 4 = some 0 := by decide +kernel
set_option maxHeartbeats 8000000 in
set_option maxRecDepth 100000 in
theorem put1_calls (w : World) :
    Calls Tryd.prog 9 #[.int .i64 9, .agg #[.int .u8 2, .int .i64 0, .int .i64 4, .int .i64 (-1), .int .i64 1, .int .i64 8, .bool false, .int .i64 0]] w fun e w' => ∃ v0_ : Value, e = .returned (.tuple #[v0_, .int .u8 4, .int .i64 0]) ∧ Kd.R (Kd.int .u8) 5 w' w.heap.size (fun _ => True) v0_ [76, 36, 8] ∧ Below w.heap.size w w' := by
  have hu23 := Tryd.underlying23
  go_enter Tryd.func9, Tryd.ntmps9
  go_upto_region 1 with (fail)
  have b3 := World.alloc_heap_new w (.cells #[.int .u8 2, .int .i64 0, .int .i64 4, .int .i64 (-1), .int .i64 1, .int .i64 8, .bool false, .int .i64 0] 23)
  have b4 := World.alloc_heap_new (w.alloc (.cells #[.int .u8 2, .int .i64 0, .int .i64 4, .int .i64 (-1), .int .i64 1, .int .i64 8, .bool false, .int .i64 0] 23)) (.cells #[.slice none 0 0] 24)
  rw [World.size_alloc] at b4
  have b3' := (Below.heap_alloc (w.alloc (.cells #[.int .u8 2, .int .i64 0, .int .i64 4, .int .i64 (-1), .int .i64 1, .int .i64 8, .bool false, .int .i64 0] 23)) (.cells #[.slice none 0 0] 24) _ (Array.getElem?_eq_some_iff.1 b3).1).trans b3
  have hbl : Below w.heap.size w ((w.alloc (.cells #[.int .u8 2, .int .i64 0, .int .i64 4, .int .i64 (-1), .int .i64 1, .int .i64 8, .bool false, .int .i64 0] 23)).alloc (.cells #[.slice none 0 0] 24)) := below_alloc (below_alloc (Below.refl _ _) _) _
  have B3 := Aside0.mk b3'
  have B4 := Aside0.mk b4
  have HB := Aside0.mk hbl
  clear b3 b4 b3' hbl
  generalize (w.alloc (.cells #[.int .u8 2, .int .i64 0, .int .i64 4, .int .i64 (-1), .int .i64 1, .int .i64 8, .bool false, .int .i64 0] 23)).alloc (.cells #[.slice none 0 0] 24) = w1 at *
  obtain ⟨⟨q0, q1, q2, q3, q4, q5, q6, q7⟩, -⟩ := rows8 B3.out
  go_upto_region 3 with (first | (go_at_call 15; refine (operand_Right.calls 1 2 0 4 (-1) 1 8 false 0 true w1 right1).mono ?_; rintro e w2 ⟨rfl, hb2⟩))
  have B32 := Aside0.mk (blk_below B3.out hb2)
  have B42 := Aside0.mk (blk_below B4.out hb2)
  have HB2 := Aside0.mk (HB.out.trans (hb2.mono HB.out.size))
  clear B3 B4 HB hb2 q0 q1 q2 q3 q4 q5 q6 q7
  go_upto_region 4 with (first | (go_at_call 23; refine (operand_low.calls 9 1 w2 low9).mono ?_; rintro e w3 ⟨rfl, n3, rfl⟩))
  go_upto_region 5 with (first | (go_at_call 24; refine (operand_high.calls 9 1 _ high9).mono ?_; rintro e w4 ⟨rfl, n4, rfl⟩))
  have B35 : Aside0 ((w2.drewN (n3 + n4)).heap[w.heap.size]? = some (.cells #[.int .u8 2, .int .i64 0, .int .i64 4, .int .i64 (-1), .int .i64 1, .int .i64 8, .bool false, .int .i64 0] 23)) := ⟨B32.out⟩
  have B45 : Aside0 ((w2.drewN (n3 + n4)).heap[w.heap.size + 1]? = some (.cells #[.slice none 0 0] 24)) := ⟨B42.out⟩
  have HB5 : Aside0 (Below w.heap.size w (w2.drewN (n3 + n4))) := ⟨HB2.out.trans ⟨rfl, rfl, rfl, Nat.le_refl _, fun _ _ => rfl⟩⟩
  clear B32 B42 HB2
  generalize w2.drewN (n3 + n4) = w5 at *
  obtain ⟨⟨q0, q1, q2, q3, q4, q5, q6, q7⟩, -⟩ := rows8 B35.out
  go_upto_region 12 with (fail)
  go_upto_region 13 with (first | (go_at_call 26; refine (operand_form.calls 1 2 0 4 (-1) 1 8 false 0 1 1 w5 form1).mono ?_; rintro e w6 ⟨rfl, hb6⟩))
  have B36 := Aside0.mk (blk_below B35.out hb6)
  have B46 := Aside0.mk (blk_below B45.out hb6)
  have HB6 := Aside0.mk (HB5.out.trans (hb6.mono HB5.out.size))
  clear B35 B45 HB5 hb6 q0 q1 q2 q3 q4 q5 q6 q7
  obtain ⟨⟨q0, q1, q2, q3, q4, q5, q6, q7⟩, -⟩ := rows8 B36.out
  go_upto_if 65 with (fail)
  go_cut [5, 11] from 14 to 73 (fun v5 v11 wc => v5 = .int .u8 4 ∧ v11 = .int .u8 4 ∧ Aside0 (wc.heap[w.heap.size]? = some (.cells #[.int .u8 2, .int .i64 0, .int .i64 4, .int .i64 (-1), .int .i64 1, .int .i64 8, .bool false, .int .i64 0] 23)) ∧ Aside0 (wc.heap[w.heap.size + 1]? = some (.cells #[.slice none 0 0] 24)) ∧ Aside0 (Below w.heap.size w wc))
  case first =>
    go_upto_region 15 with (fail)
    go_region_with (first | (go_at_call 23; refine (operand_low.calls 4 4 _ low4).mono ?_; rintro e w7 ⟨rfl, n7, rfl⟩) | (go_at_call 24; refine (operand_high.calls 4 0 _ high4).mono ?_; rintro e w8 ⟨rfl, n8, rfl⟩))
    all_goals go_wp2
    all_goals go_meet
    all_goals exact ⟨by rfl, by rfl, ⟨B36.out⟩, ⟨B46.out⟩, ⟨HB6.out.trans ⟨rfl, rfl, rfl, Nat.le_refl _, fun _ _ => rfl⟩⟩⟩
  case rest =>
    obtain ⟨rfl, rfl, B37, B47, HB7⟩ := hcut
    generalize wc = w7 at *
    clear B36 B46 HB6 q0 q1 q2 q3 q4 q5 q6 q7
    obtain ⟨⟨q0, q1, q2, q3, q4, q5, q6, q7⟩, -⟩ := rows8 B37.out
    obtain ⟨qb, zb⟩ := cell_of_block B47.out
    have hl1 : w.heap.size + 1 < w7.heap.size := blk_lt B47.out
    have hl0 : w.heap.size < w7.heap.size := by omega
    have hX : Go.bits .or .u8 (Go.bits .or .u8 64 8) 4 = 76 := by decide +kernel
    have hY : Go.bits .or .u8 (Go.bits .or .u8 0 32) 4 = 36 := by decide +kernel
    go_upto_region 19 with (fail)
    have hk8 : Keeps (fun k => k = w.heap.size + 1) w7 ((w7.setCell ⟨w.heap.size + 1, 0, none⟩ (.slice (some ⟨w7.heap.size, 0, none⟩) 1 1)).alloc (.cells #[.int .u8 76] 5)) := ((Keeps.refl (fun k => k = w.heap.size + 1) w7).setCell ⟨w.heap.size + 1, 0, none⟩ _ rfl).alloc _
    have B38 : Aside0 (((w7.setCell ⟨w.heap.size + 1, 0, none⟩ (.slice (some ⟨w7.heap.size, 0, none⟩) 1 1)).alloc (.cells #[.int .u8 76] 5)).heap[w.heap.size]? = some (.cells #[.int .u8 2, .int .i64 0, .int .i64 4, .int .i64 (-1), .int .i64 1, .int .i64 8, .bool false, .int .i64 0] 23)) := ⟨hk8.at_ B37.out (by omega)⟩
    have B48 : Aside0 (((w7.setCell ⟨w.heap.size + 1, 0, none⟩ (.slice (some ⟨w7.heap.size, 0, none⟩) 1 1)).alloc (.cells #[.int .u8 76] 5)).heap[w.heap.size + 1]? = some (.cells #[.slice (some ⟨w7.heap.size, 0, none⟩) 1 1] 24)) := ⟨(Below.heap_alloc _ _ _ (by show _ < (w7.setCell _ _).heap.size; rw [World.size_setCell]; exact hl1)).trans (blk_store B47.out _)⟩
    have HB8 : Aside0 (Below w.heap.size w ((w7.setCell ⟨w.heap.size + 1, 0, none⟩ (.slice (some ⟨w7.heap.size, 0, none⟩) 1 1)).alloc (.cells #[.int .u8 76] 5))) := ⟨HB7.out.trans (hk8.below (by omega) (fun k hk h => by omega))⟩
    clear hk8 B37 B47 HB7 q0 q1 q2 q3 q4 q5 q6 q7 qb zb hl1 hl0
    generalize w7.heap.size = g7 at *
    generalize ((w7.setCell ⟨w.heap.size + 1, 0, none⟩ (.slice (some ⟨g7, 0, none⟩) 1 1)).alloc (.cells #[.int .u8 76] 5)) = w8 at *
    obtain ⟨⟨q0, q1, q2, q3, q4, q5, q6, q7⟩, -⟩ := rows8 B38.out
    obtain ⟨qb, zb⟩ := cell_of_block B48.out
    have hl1 : w.heap.size + 1 < w8.heap.size := blk_lt B48.out
    have hl0 : w.heap.size < w8.heap.size := by omega
    go_upto_region 21 with (fail)
    have hk9 : Keeps (fun k => k = w.heap.size + 1) w8 ((w8.setCell ⟨w.heap.size + 1, 0, none⟩ (.slice (some ⟨w8.heap.size, 0, none⟩) 2 2)).alloc (.cells #[.int .u8 76, .int .u8 36] 5)) := ((Keeps.refl (fun k => k = w.heap.size + 1) w8).setCell ⟨w.heap.size + 1, 0, none⟩ _ rfl).alloc _
    have B39 : Aside0 (((w8.setCell ⟨w.heap.size + 1, 0, none⟩ (.slice (some ⟨w8.heap.size, 0, none⟩) 2 2)).alloc (.cells #[.int .u8 76, .int .u8 36] 5)).heap[w.heap.size]? = some (.cells #[.int .u8 2, .int .i64 0, .int .i64 4, .int .i64 (-1), .int .i64 1, .int .i64 8, .bool false, .int .i64 0] 23)) := ⟨hk9.at_ B38.out (by omega)⟩
    have B49 : Aside0 (((w8.setCell ⟨w.heap.size + 1, 0, none⟩ (.slice (some ⟨w8.heap.size, 0, none⟩) 2 2)).alloc (.cells #[.int .u8 76, .int .u8 36] 5)).heap[w.heap.size + 1]? = some (.cells #[.slice (some ⟨w8.heap.size, 0, none⟩) 2 2] 24)) := ⟨(Below.heap_alloc _ _ _ (by show _ < (w8.setCell _ _).heap.size; rw [World.size_setCell]; exact hl1)).trans (blk_store B48.out _)⟩
    have HB9 : Aside0 (Below w.heap.size w ((w8.setCell ⟨w.heap.size + 1, 0, none⟩ (.slice (some ⟨w8.heap.size, 0, none⟩) 2 2)).alloc (.cells #[.int .u8 76, .int .u8 36] 5))) := ⟨HB8.out.trans (hk9.below (by omega) (fun k hk h => by omega))⟩
    have HS9 : Aside0 (w.heap.size + 2 ≤ ((w8.setCell ⟨w.heap.size + 1, 0, none⟩ (.slice (some ⟨w8.heap.size, 0, none⟩) 2 2)).alloc (.cells #[.int .u8 76, .int .u8 36] 5)).heap.size) := ⟨by rw [World.size_alloc, World.size_setCell]; omega⟩
    have HO9 : Aside0 (((w8.setCell ⟨w.heap.size + 1, 0, none⟩ (.slice (some ⟨w8.heap.size, 0, none⟩) 2 2)).alloc (.cells #[.int .u8 76, .int .u8 36] 5)).ownsRow (w.heap.size + 2) 5 1 (.slice (some ⟨w8.heap.size, 0, none⟩) 2 2) 2 (nums .u8 [76, 36])) := ⟨by
      have h := own_lit (w8.setCell ⟨w.heap.size + 1, 0, none⟩ (.slice (some ⟨w8.heap.size, 0, none⟩) 2 2)) (w.heap.size + 2) 5 .u8 [76, 36] (by rw [World.size_setCell]; omega) (by decide)
      rw [World.size_setCell] at h
      exact h⟩
    clear hk9 B38 B48 HB8 q0 q1 q2 q3 q4 q5 q6 q7 qb zb hl1 hl0 hX hY
    generalize w8.heap.size = g8 at *
    generalize ((w8.setCell ⟨w.heap.size + 1, 0, none⟩ (.slice (some ⟨g8, 0, none⟩) 2 2)).alloc (.cells #[.int .u8 76, .int .u8 36] 5)) = w9 at *
    go_upto_region 22 with (first | (go_at_call 25; refine (number_calls (w.heap.size + 1) w.heap.size 1 (w.heap.size + 2) (.slice (some ⟨g8, 0, none⟩) 2 2) [76, 36] _ _ _ _ _ _ _ 8 w9 (by decide) (by decide) B49.out B39.out HO9.out (by omega) (by omega) (by omega) HS9.out).mono ?_; rintro e w10 ⟨⟨u, rfl⟩, v2, hb2, ho2, hk2⟩))
    rw [dispB1] at ho2
    obtain ⟨A2, c2, rfl⟩ := own_slice ho2
    have B2 := Aside0.mk hb2
    have O2 := Aside0.mk ho2
    have HB10 : Aside0 (Below w.heap.size w w10) := ⟨HB9.out.trans (hk2.below HB9.out.size (fun k hk h => by omega))⟩
    clear hb2 ho2 hk2
    obtain ⟨qb, zb⟩ := cell_of_block B2.out
    have hq : w.heap.size + 2 ≤ w10.heap.size := by have := blk_lt B2.out; omega
    go_wp2_with fail
    refine bodyPost_ret (results_put (blk_store B2.out _) rfl) rfl ⟨_, rfl, ?_, ?_⟩
    · exact R_of_own (own_weaken (own_setCell O2.out (p := ⟨w.heap.size + 1, 0, none⟩) (fun e => absurd (own_base O2.out _ e.symm) (Nat.not_le.2 (Nat.lt_succ_self _))) _) (by omega))
    · exact HB10.out.trans (Keeps.below ((Keeps.refl (fun k => k = w.heap.size + 1) w10).setCell ⟨w.heap.size + 1, 0, none⟩ _ rfl) (by omega) (fun k hk h => by omega))
end Go.Proofs.YtppeidopijnnlaaDoor.B
