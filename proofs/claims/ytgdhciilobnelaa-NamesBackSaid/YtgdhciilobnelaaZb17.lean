/- NamesBack walked. -/
import Derived.Test.YtgdhciilobnelaaZb16
namespace Go.Proofs.Ytgdhciilobnelaa.B
open Go.RowKit Go.Lib Go.Proofs.YtgdhciilobnelaaW.PrintWords Go.Proofs.YtgdhciilobnelaaW.PrintLast Go.Proofs.YtgdhciilobnelaaW.PrintMore Go.RF
set_option linter.unusedVariables false
set_option linter.unusedSimpArgs false
attribute [local go_sem] max2_int min2_int max_two min_two
theorem s_neq {o : Oper} {ρ : Operand → Value} {x y : Operand} {a : ByteArray} {w : World} (ho : o.op = .binOp .neq 9 x y 9) (hx : ρ x = .string a) (hy : ρ y = .string a) : (execOp ρ o).run Try.prog w = .ok (.value (.bool false)) w := by
  refine run_bin ho hx hy (by rfl) ?_
  simp [binOp, Op.stringOp]
theorem b_neq {o : Oper} {ρ : Operand → Value} {x y : Operand} {a : Bool} {w : World} (ho : o.op = .binOp .neq 4 x y 4) (hx : ρ x = .bool a) (hy : ρ y = .bool a) : (execOp ρ o).run Try.prog w = .ok (.value (.bool false)) w := by
  refine run_bin ho hx hy (by rfl) ?_
  cases a <;> kernel_rfl
theorem idx22 {ad : Addr} {n c i : Nat} {w : World} {o : Oper} {ρ : Operand → Value} {x y : Operand} (hi : i < n) (ho : o.op = .indexAddr 22 x y) (hx : ρ x = .slice (some ad) n c) (hy : ρ y = .int .i64 (i : Int)) :
    (execOp ρ o).run Try.prog w = .ok (.value (.pointer (some (ad.add (i * 5))))) w := by
  refine run_indexAddr ho hx hy ?_
  have hin : (0 : Int) ≤ (i : Int) ∧ (i : Int) < (n : Int) := ⟨by omega, by omega⟩
  have h5 : (sizeOf 41).run Try.prog w = .ok 5 w := by kernel_rfl
  unfold Instr.indexAt
  simp only [asIntOf, Sem.run_bind, Sem.run_pure, Result.andThen_ok, run_underlying Try.underlying22, hin, and_self, if_true, Int.toNat_natCast, h5]
theorem run_slice_to {o : Oper} {ρ : Operand → Value} {x y : Operand} {a b v : Value} {w : World} (ho : o.op = .slice 23 x none (some y) none) (hx : ρ x = a) (hy : ρ y = b) (h : (Instr.slice 23 a none (some b) none).run Try.prog w = .ok v w) :
    (execOp ρ o).run Try.prog w = .ok (.value v) w := by
  have hu : Try.prog.underlying 23 = some (.slice (Try.prog.elem 23)) := by kernel_rfl
  unfold execOp
  simp only [ho, Option.map_some, Option.map_none, hx, hy, Sem.run_bind, run_sliceAt_slice _ _ _ _ _ _ hu, h, Result.andThen_ok, Sem.run_pure]
set_option maxHeartbeats 8000000 in
set_option maxRecDepth 100000 in
theorem back_wakes_a (a : Int) (A1 : Option Addr) (c1 : Nat) (l : List S41) (A2 : Option Addr) (c2 : Nat) (bs : List Int) (w0 : World) (hC : Kd.C k41 w0 A1 l.length l) (hl : l.length ≤ c1) (hg : ∃ k, sundiallaw04_great.f k l = some true)  :
    Calls Try.prog 3 #[.int .i64 a, .slice A1 l.length c1, .slice A2 bs.length c2] w0 fun e w' => e = .returned (.bool true) ∧ Below w0.heap.size w0 w' := by
  obtain ⟨k, hk⟩ := hg
  have HC := Aside0.mk hC
  have HL := Aside0.mk hl
  have HK := Aside0.mk hk
  have B0 := Aside0.mk (Below.refl w0.heap.size w0)
  clear hC hl hk
  go_enter Try.func3, Try.ntmps3
  go_upto_region 1 with (fail)
  refine wp_region_lit ?_
  refine RS.t1 14 rfl (by kernel_rfl) (.slice A1 l.length c1) (by kernel_rfl) ?_
  (try simp only [Act.put, List.setIfInBounds_toArray, List.set_cons_zero, List.set_cons_succ])
  refine RS.tC 15 rfl (by kernel_rfl) (show _ = Result.ok (Next.enter 7 #[.slice A1 l.length c1]) _ from by kernel_rfl) ?_
  refine (sundiallaw04_great.calls k A1 c1 l true w0 HC.out HL.out HK.out).mono ?_
  rintro e w1_ ⟨rfl, hd_⟩
  have hb_ := hd_.below
  clear hd_
  have B2_ := Aside0.mk (below_step B0.out hb_)
  clear hb_ B0
  refine ⟨_, rfl, ?_⟩
  (try simp only [Act.put, List.setIfInBounds_toArray, List.set_cons_zero, List.set_cons_succ])
  refine RS.t1 16 rfl (by kernel_rfl) (.bool true) (by kernel_rfl) ?_
  (try simp only [Act.put, List.setIfInBounds_toArray, List.set_cons_zero, List.set_cons_succ])
  refine RS.t0 17 rfl (by kernel_rfl) ?_
  (try simp only [Act.put, List.setIfInBounds_toArray, List.set_cons_zero, List.set_cons_succ])
  refine RS.t0 18 rfl (by kernel_rfl) ?_
  (try simp only [Act.put, List.setIfInBounds_toArray, List.set_cons_zero, List.set_cons_succ])
  refine RS.t1 19 rfl (by kernel_rfl) (.bool true) (by kernel_rfl) ?_
  (try simp only [Act.put, List.setIfInBounds_toArray, List.set_cons_zero, List.set_cons_succ])
  refine RS.t1 20 rfl (by kernel_rfl) (.bool true) (by kernel_rfl) ?_
  (try simp only [Act.put, List.setIfInBounds_toArray, List.set_cons_zero, List.set_cons_succ])
  refine RS.t0 21 rfl (by kernel_rfl) ?_
  (try simp only [Act.put, List.setIfInBounds_toArray, List.set_cons_zero, List.set_cons_succ])
  refine RS.t0 22 rfl (by kernel_rfl) ?_
  (try simp only [Act.put, List.setIfInBounds_toArray, List.set_cons_zero, List.set_cons_succ])
  refine RS.t1 23 rfl (by kernel_rfl) (.bool true) (by kernel_rfl) ?_
  (try simp only [Act.put, List.setIfInBounds_toArray, List.set_cons_zero, List.set_cons_succ])
  refine RS.t1 24 rfl (by kernel_rfl) (.bool true) (by kernel_rfl) ?_
  (try simp only [Act.put, List.setIfInBounds_toArray, List.set_cons_zero, List.set_cons_succ])
  refine RS.t0 25 rfl (by kernel_rfl) ?_
  (try simp only [Act.put, List.setIfInBounds_toArray, List.set_cons_zero, List.set_cons_succ])
  refine RS.t0 26 rfl (by kernel_rfl) ?_
  (try simp only [Act.put, List.setIfInBounds_toArray, List.set_cons_zero, List.set_cons_succ])
  refine RS.t0 27 rfl (by kernel_rfl) ?_
  (try simp only [Act.put, List.setIfInBounds_toArray, List.set_cons_zero, List.set_cons_succ])
  refine RS.t1 28 rfl (by kernel_rfl) (.bool true) (by kernel_rfl) ?_
  (try simp only [Act.put, List.setIfInBounds_toArray, List.set_cons_zero, List.set_cons_succ])
  go_upto_region 2 with (fail)
  refine wp_region_lit ?_
  refine RS.tC 29 rfl (by kernel_rfl) (show _ = Result.ok (Next.enter 8 #[]) _ from by kernel_rfl) ?_
  refine (wakes_calls w1_).mono ?_
  rintro e w3_ ⟨rfl, hb_⟩
  have B4_ := Aside0.mk (below_step B2_.out hb_)
  clear hb_ B2_
  refine ⟨_, rfl, ?_⟩
  (try simp only [Act.put, List.setIfInBounds_toArray, List.set_cons_zero, List.set_cons_succ])
  refine RS.t1 6 rfl (by kernel_rfl) (.bool true) (by kernel_rfl) ?_
  (try simp only [Act.put, List.setIfInBounds_toArray, List.set_cons_zero, List.set_cons_succ])
  go_wp2_with fail
  go_ret
  exact ⟨rfl, B4_.out⟩
set_option maxHeartbeats 8000000 in
set_option maxRecDepth 100000 in
theorem back_wakes_b (a : Int) (A1 : Option Addr) (c1 : Nat) (l : List S41) (A2 : Option Addr) (c2 : Nat) (bs : List Int) (w0 : World) (hC : Kd.C k41 w0 A1 l.length l) (hl : l.length ≤ c1) (hg : ∃ k, sundiallaw04_great.f k l = some false) (ha : a < 0) :
    Calls Try.prog 3 #[.int .i64 a, .slice A1 l.length c1, .slice A2 bs.length c2] w0 fun e w' => e = .returned (.bool true) ∧ Below w0.heap.size w0 w' := by
  obtain ⟨k, hk⟩ := hg
  have HC := Aside0.mk hC
  have HL := Aside0.mk hl
  have HK := Aside0.mk hk
  have B0 := Aside0.mk (Below.refl w0.heap.size w0)
  clear hC hl hk
  go_enter Try.func3, Try.ntmps3
  go_upto_region 1 with (fail)
  refine wp_region_lit ?_
  refine RS.t1 14 rfl (by kernel_rfl) (.slice A1 l.length c1) (by kernel_rfl) ?_
  (try simp only [Act.put, List.setIfInBounds_toArray, List.set_cons_zero, List.set_cons_succ])
  refine RS.tC 15 rfl (by kernel_rfl) (show _ = Result.ok (Next.enter 7 #[.slice A1 l.length c1]) _ from by kernel_rfl) ?_
  refine (sundiallaw04_great.calls k A1 c1 l false w0 HC.out HL.out HK.out).mono ?_
  rintro e w5_ ⟨rfl, hd_⟩
  have hb_ := hd_.below
  clear hd_
  have B6_ := Aside0.mk (below_step B0.out hb_)
  clear hb_ B0
  refine ⟨_, rfl, ?_⟩
  (try simp only [Act.put, List.setIfInBounds_toArray, List.set_cons_zero, List.set_cons_succ])
  refine RS.t1 16 rfl (by kernel_rfl) (.bool false) (by kernel_rfl) ?_
  (try simp only [Act.put, List.setIfInBounds_toArray, List.set_cons_zero, List.set_cons_succ])
  refine RS.t1 17 rfl (by kernel_rfl) (.int .i64 a) (by kernel_rfl) ?_
  (try simp only [Act.put, List.setIfInBounds_toArray, List.set_cons_zero, List.set_cons_succ])
  refine RS.t1 18 rfl (by kernel_rfl) (.bool true) (c_lss (k := .i64) (a := a) (b := 0) (r := true) (decide_eq_true ha) rfl (by kernel_rfl) (by kernel_rfl)) ?_
  (try simp only [Act.put, List.setIfInBounds_toArray, List.set_cons_zero, List.set_cons_succ])
  refine RS.t1 19 rfl (by kernel_rfl) (.bool true) (by kernel_rfl) ?_
  (try simp only [Act.put, List.setIfInBounds_toArray, List.set_cons_zero, List.set_cons_succ])
  refine RS.t1 20 rfl (by kernel_rfl) (.bool true) (by kernel_rfl) ?_
  (try simp only [Act.put, List.setIfInBounds_toArray, List.set_cons_zero, List.set_cons_succ])
  refine RS.t0 21 rfl (by kernel_rfl) ?_
  (try simp only [Act.put, List.setIfInBounds_toArray, List.set_cons_zero, List.set_cons_succ])
  refine RS.t0 22 rfl (by kernel_rfl) ?_
  (try simp only [Act.put, List.setIfInBounds_toArray, List.set_cons_zero, List.set_cons_succ])
  refine RS.t1 23 rfl (by kernel_rfl) (.bool true) (by kernel_rfl) ?_
  (try simp only [Act.put, List.setIfInBounds_toArray, List.set_cons_zero, List.set_cons_succ])
  refine RS.t1 24 rfl (by kernel_rfl) (.bool true) (by kernel_rfl) ?_
  (try simp only [Act.put, List.setIfInBounds_toArray, List.set_cons_zero, List.set_cons_succ])
  refine RS.t0 25 rfl (by kernel_rfl) ?_
  (try simp only [Act.put, List.setIfInBounds_toArray, List.set_cons_zero, List.set_cons_succ])
  refine RS.t0 26 rfl (by kernel_rfl) ?_
  (try simp only [Act.put, List.setIfInBounds_toArray, List.set_cons_zero, List.set_cons_succ])
  refine RS.t0 27 rfl (by kernel_rfl) ?_
  (try simp only [Act.put, List.setIfInBounds_toArray, List.set_cons_zero, List.set_cons_succ])
  refine RS.t1 28 rfl (by kernel_rfl) (.bool true) (by kernel_rfl) ?_
  (try simp only [Act.put, List.setIfInBounds_toArray, List.set_cons_zero, List.set_cons_succ])
  go_upto_region 2 with (fail)
  refine wp_region_lit ?_
  refine RS.tC 29 rfl (by kernel_rfl) (show _ = Result.ok (Next.enter 8 #[]) _ from by kernel_rfl) ?_
  refine (wakes_calls w5_).mono ?_
  rintro e w7_ ⟨rfl, hb_⟩
  have B8_ := Aside0.mk (below_step B6_.out hb_)
  clear hb_ B6_
  refine ⟨_, rfl, ?_⟩
  (try simp only [Act.put, List.setIfInBounds_toArray, List.set_cons_zero, List.set_cons_succ])
  refine RS.t1 6 rfl (by kernel_rfl) (.bool true) (by kernel_rfl) ?_
  (try simp only [Act.put, List.setIfInBounds_toArray, List.set_cons_zero, List.set_cons_succ])
  go_wp2_with fail
  go_ret
  exact ⟨rfl, B8_.out⟩
set_option maxHeartbeats 8000000 in
set_option maxRecDepth 100000 in
theorem back_wakes_c (a : Int) (A1 : Option Addr) (c1 : Nat) (l : List S41) (A2 : Option Addr) (c2 : Nat) (bs : List Int) (w0 : World) (hC : Kd.C k41 w0 A1 l.length l) (hl : l.length ≤ c1) (hg : ∃ k, sundiallaw04_great.f k l = some false) (ha : 0 ≤ a) (hb : 200 < a) :
    Calls Try.prog 3 #[.int .i64 a, .slice A1 l.length c1, .slice A2 bs.length c2] w0 fun e w' => e = .returned (.bool true) ∧ Below w0.heap.size w0 w' := by
  obtain ⟨k, hk⟩ := hg
  have HC := Aside0.mk hC
  have HL := Aside0.mk hl
  have HK := Aside0.mk hk
  have B0 := Aside0.mk (Below.refl w0.heap.size w0)
  clear hC hl hk
  go_enter Try.func3, Try.ntmps3
  go_upto_region 1 with (fail)
  refine wp_region_lit ?_
  refine RS.t1 14 rfl (by kernel_rfl) (.slice A1 l.length c1) (by kernel_rfl) ?_
  (try simp only [Act.put, List.setIfInBounds_toArray, List.set_cons_zero, List.set_cons_succ])
  refine RS.tC 15 rfl (by kernel_rfl) (show _ = Result.ok (Next.enter 7 #[.slice A1 l.length c1]) _ from by kernel_rfl) ?_
  refine (sundiallaw04_great.calls k A1 c1 l false w0 HC.out HL.out HK.out).mono ?_
  rintro e w9_ ⟨rfl, hd_⟩
  have hb_ := hd_.below
  clear hd_
  have B10_ := Aside0.mk (below_step B0.out hb_)
  clear hb_ B0
  refine ⟨_, rfl, ?_⟩
  (try simp only [Act.put, List.setIfInBounds_toArray, List.set_cons_zero, List.set_cons_succ])
  refine RS.t1 16 rfl (by kernel_rfl) (.bool false) (by kernel_rfl) ?_
  (try simp only [Act.put, List.setIfInBounds_toArray, List.set_cons_zero, List.set_cons_succ])
  refine RS.t1 17 rfl (by kernel_rfl) (.int .i64 a) (by kernel_rfl) ?_
  (try simp only [Act.put, List.setIfInBounds_toArray, List.set_cons_zero, List.set_cons_succ])
  refine RS.t1 18 rfl (by kernel_rfl) (.bool false) (c_lss (k := .i64) (a := a) (b := 0) (r := false) (decide_eq_false (by omega)) rfl (by kernel_rfl) (by kernel_rfl)) ?_
  (try simp only [Act.put, List.setIfInBounds_toArray, List.set_cons_zero, List.set_cons_succ])
  refine RS.t1 19 rfl (by kernel_rfl) (.bool false) (by kernel_rfl) ?_
  (try simp only [Act.put, List.setIfInBounds_toArray, List.set_cons_zero, List.set_cons_succ])
  refine RS.t1 20 rfl (by kernel_rfl) (.bool false) (by kernel_rfl) ?_
  (try simp only [Act.put, List.setIfInBounds_toArray, List.set_cons_zero, List.set_cons_succ])
  refine RS.t1 21 rfl (by kernel_rfl) (.int .i64 a) (by kernel_rfl) ?_
  (try simp only [Act.put, List.setIfInBounds_toArray, List.set_cons_zero, List.set_cons_succ])
  refine RS.t1 22 rfl (by kernel_rfl) (.bool true) (c_gtr (k := .i64) (a := a) (b := 200) (r := true) (decide_eq_true hb) rfl (by kernel_rfl) (by kernel_rfl)) ?_
  (try simp only [Act.put, List.setIfInBounds_toArray, List.set_cons_zero, List.set_cons_succ])
  refine RS.t1 23 rfl (by kernel_rfl) (.bool true) (by kernel_rfl) ?_
  (try simp only [Act.put, List.setIfInBounds_toArray, List.set_cons_zero, List.set_cons_succ])
  refine RS.t1 24 rfl (by kernel_rfl) (.bool true) (by kernel_rfl) ?_
  (try simp only [Act.put, List.setIfInBounds_toArray, List.set_cons_zero, List.set_cons_succ])
  refine RS.t0 25 rfl (by kernel_rfl) ?_
  (try simp only [Act.put, List.setIfInBounds_toArray, List.set_cons_zero, List.set_cons_succ])
  refine RS.t0 26 rfl (by kernel_rfl) ?_
  (try simp only [Act.put, List.setIfInBounds_toArray, List.set_cons_zero, List.set_cons_succ])
  refine RS.t0 27 rfl (by kernel_rfl) ?_
  (try simp only [Act.put, List.setIfInBounds_toArray, List.set_cons_zero, List.set_cons_succ])
  refine RS.t1 28 rfl (by kernel_rfl) (.bool true) (by kernel_rfl) ?_
  (try simp only [Act.put, List.setIfInBounds_toArray, List.set_cons_zero, List.set_cons_succ])
  go_upto_region 2 with (fail)
  refine wp_region_lit ?_
  refine RS.tC 29 rfl (by kernel_rfl) (show _ = Result.ok (Next.enter 8 #[]) _ from by kernel_rfl) ?_
  refine (wakes_calls w9_).mono ?_
  rintro e w11_ ⟨rfl, hb_⟩
  have B12_ := Aside0.mk (below_step B10_.out hb_)
  clear hb_ B10_
  refine ⟨_, rfl, ?_⟩
  (try simp only [Act.put, List.setIfInBounds_toArray, List.set_cons_zero, List.set_cons_succ])
  refine RS.t1 6 rfl (by kernel_rfl) (.bool true) (by kernel_rfl) ?_
  (try simp only [Act.put, List.setIfInBounds_toArray, List.set_cons_zero, List.set_cons_succ])
  go_wp2_with fail
  go_ret
  exact ⟨rfl, B12_.out⟩
set_option maxHeartbeats 8000000 in
set_option maxRecDepth 100000 in
theorem back_wakes_d (a : Int) (A1 : Option Addr) (c1 : Nat) (l : List S41) (A2 : Option Addr) (c2 : Nat) (bs : List Int) (w0 : World) (hC : Kd.C k41 w0 A1 l.length l) (hl : l.length ≤ c1) (hg : ∃ k, sundiallaw04_great.f k l = some false) (ha : 0 ≤ a) (hb : a ≤ 200) (hc : 50 < bs.length) :
    Calls Try.prog 3 #[.int .i64 a, .slice A1 l.length c1, .slice A2 bs.length c2] w0 fun e w' => e = .returned (.bool true) ∧ Below w0.heap.size w0 w' := by
  obtain ⟨k, hk⟩ := hg
  have HC := Aside0.mk hC
  have HL := Aside0.mk hl
  have HK := Aside0.mk hk
  have B0 := Aside0.mk (Below.refl w0.heap.size w0)
  clear hC hl hk
  go_enter Try.func3, Try.ntmps3
  go_upto_region 1 with (fail)
  refine wp_region_lit ?_
  refine RS.t1 14 rfl (by kernel_rfl) (.slice A1 l.length c1) (by kernel_rfl) ?_
  (try simp only [Act.put, List.setIfInBounds_toArray, List.set_cons_zero, List.set_cons_succ])
  refine RS.tC 15 rfl (by kernel_rfl) (show _ = Result.ok (Next.enter 7 #[.slice A1 l.length c1]) _ from by kernel_rfl) ?_
  refine (sundiallaw04_great.calls k A1 c1 l false w0 HC.out HL.out HK.out).mono ?_
  rintro e w13_ ⟨rfl, hd_⟩
  have hb_ := hd_.below
  clear hd_
  have B14_ := Aside0.mk (below_step B0.out hb_)
  clear hb_ B0
  refine ⟨_, rfl, ?_⟩
  (try simp only [Act.put, List.setIfInBounds_toArray, List.set_cons_zero, List.set_cons_succ])
  refine RS.t1 16 rfl (by kernel_rfl) (.bool false) (by kernel_rfl) ?_
  (try simp only [Act.put, List.setIfInBounds_toArray, List.set_cons_zero, List.set_cons_succ])
  refine RS.t1 17 rfl (by kernel_rfl) (.int .i64 a) (by kernel_rfl) ?_
  (try simp only [Act.put, List.setIfInBounds_toArray, List.set_cons_zero, List.set_cons_succ])
  refine RS.t1 18 rfl (by kernel_rfl) (.bool false) (c_lss (k := .i64) (a := a) (b := 0) (r := false) (decide_eq_false (by omega)) rfl (by kernel_rfl) (by kernel_rfl)) ?_
  (try simp only [Act.put, List.setIfInBounds_toArray, List.set_cons_zero, List.set_cons_succ])
  refine RS.t1 19 rfl (by kernel_rfl) (.bool false) (by kernel_rfl) ?_
  (try simp only [Act.put, List.setIfInBounds_toArray, List.set_cons_zero, List.set_cons_succ])
  refine RS.t1 20 rfl (by kernel_rfl) (.bool false) (by kernel_rfl) ?_
  (try simp only [Act.put, List.setIfInBounds_toArray, List.set_cons_zero, List.set_cons_succ])
  refine RS.t1 21 rfl (by kernel_rfl) (.int .i64 a) (by kernel_rfl) ?_
  (try simp only [Act.put, List.setIfInBounds_toArray, List.set_cons_zero, List.set_cons_succ])
  refine RS.t1 22 rfl (by kernel_rfl) (.bool false) (c_gtr (k := .i64) (a := a) (b := 200) (r := false) (decide_eq_false (by omega)) rfl (by kernel_rfl) (by kernel_rfl)) ?_
  (try simp only [Act.put, List.setIfInBounds_toArray, List.set_cons_zero, List.set_cons_succ])
  refine RS.t1 23 rfl (by kernel_rfl) (.bool false) (by kernel_rfl) ?_
  (try simp only [Act.put, List.setIfInBounds_toArray, List.set_cons_zero, List.set_cons_succ])
  refine RS.t1 24 rfl (by kernel_rfl) (.bool false) (by kernel_rfl) ?_
  (try simp only [Act.put, List.setIfInBounds_toArray, List.set_cons_zero, List.set_cons_succ])
  refine RS.t1 25 rfl (by kernel_rfl) (.slice A2 bs.length c2) (by kernel_rfl) ?_
  (try simp only [Act.put, List.setIfInBounds_toArray, List.set_cons_zero, List.set_cons_succ])
  refine RS.t1 26 rfl (by kernel_rfl) (.int .i64 ((bs.length : Nat) : Int)) (by kernel_rfl) ?_
  (try simp only [Act.put, List.setIfInBounds_toArray, List.set_cons_zero, List.set_cons_succ])
  refine RS.t1 27 rfl (by kernel_rfl) (.bool true) (c_gtr (k := .i64) (a := ((bs.length : Nat) : Int)) (b := 50) (r := true) (decide_eq_true (by omega)) rfl (by kernel_rfl) (by kernel_rfl)) ?_
  (try simp only [Act.put, List.setIfInBounds_toArray, List.set_cons_zero, List.set_cons_succ])
  refine RS.t1 28 rfl (by kernel_rfl) (.bool true) (by kernel_rfl) ?_
  (try simp only [Act.put, List.setIfInBounds_toArray, List.set_cons_zero, List.set_cons_succ])
  go_upto_region 2 with (fail)
  refine wp_region_lit ?_
  refine RS.tC 29 rfl (by kernel_rfl) (show _ = Result.ok (Next.enter 8 #[]) _ from by kernel_rfl) ?_
  refine (wakes_calls w13_).mono ?_
  rintro e w15_ ⟨rfl, hb_⟩
  have B16_ := Aside0.mk (below_step B14_.out hb_)
  clear hb_ B14_
  refine ⟨_, rfl, ?_⟩
  (try simp only [Act.put, List.setIfInBounds_toArray, List.set_cons_zero, List.set_cons_succ])
  refine RS.t1 6 rfl (by kernel_rfl) (.bool true) (by kernel_rfl) ?_
  (try simp only [Act.put, List.setIfInBounds_toArray, List.set_cons_zero, List.set_cons_succ])
  go_wp2_with fail
  go_ret
  exact ⟨rfl, B16_.out⟩
theorem own_base_ {w : World} {e : TypeId} {size n Q : Nat} {v : Value} {xs : List Value} (h : w.ownsRow Q e size v n xs) {q : Nat} (hq : q = Q) : ∀ k, v.ownBlock = some k → q ≤ k := fun k hk => by rw [hq]; exact own_base h k hk
theorem app8_choose {w : World} {base : Nat} {v : Value} {xs ys : List Int} {A : Option Addr} {n c : Nat} {o : Oper} {ρ : Operand → Value} {x y : Operand} {C : Type} {G : Value → World → C → Prop} (hown : w.ownsRow base 5 1 v xs.length (nums .u8 xs)) (hC : Kd.C (Kd.int .u8) w A ys.length ys) (hn : ys.length = n) (hbase : base ≤ w.heap.size) (hl : xs.length + n ≤ 10000000)
    (ho : o.op = .call { callee := .builtin .append, args := #[x, y], argTypes := #[23, 23] }) (hx : ρ x = v) (hy : ρ y = .slice A n c)
    (h : ∀ v' w', (execOp ρ o).run Try.prog w = .ok (.value v') w' → w'.ownsRow base 5 1 v' (xs ++ ys).length (nums .u8 (xs ++ ys)) → w.grownBy w' v.ownBlock → (v'.ownBlock = v.ownBlock ∨ v'.ownBlock = some w.heap.size) → ∃ u w2 c', (execOp ρ o).run Try.prog w = .ok (.value u) w2 ∧ G u w2 c') : ∃ u w2 c', (execOp ρ o).run Try.prog w = .ok (.value u) w2 ∧ G u w2 c' := by
  obtain ⟨v', w', h1, h2, h3, h4⟩ := run_app8 hown hC hn hbase hl ho hx hy
  exact h v' w' h1 h2 h3 h4
theorem readN_cut {a : Nat} {l : List S41} (hok : ∀ x ∈ l, S41ok x) (h60 : l.length ≤ 60) : readN ((madeB a l).take ((madeB a l).length - 1)) (secsM a l) = ([], 33) := by
  have h1 := strP_le hok
  have h2 : 0 < (strP l).length := by unfold strP; simp
  have h3 := madeB_len a l
  rw [secsM_eq]
  exact readN_place (by omega) (by omega) (by unfold fits; rw [List.length_take]; omega)
theorem sym_at (l : List S41) (i : Nat) (hi : i < l.length) : (l.map symO).getD i z38 = symO (l.getD i z41) := by
  rw [List.getD_eq_getElem?_getD, List.getD_eq_getElem?_getD, List.getElem?_map, List.getElem?_eq_getElem hi]
  rfl
set_option maxHeartbeats 8000000 in
set_option maxRecDepth 100000 in
theorem back_main (ahead : Nat) (A1 : Option Addr) (c1 n nb : Nat) (l : List S41) (A2 : Option Addr) (c2 : Nat) (bs : List Int) (w0 : World) (hC : Kd.C k41 w0 A1 l.length l) (hl : l.length ≤ c1) (hg : ∃ k, sundiallaw04_great.f k l = some false) (hC2 : Kd.C (Kd.int .u8) w0 A2 bs.length bs) (hn : l.length = n) (hnb : bs.length = nb)
    (h60 : l.length ≤ 60) (hok : ∀ x ∈ l, S41ok x) (hz : ∀ x ∈ l, NoZ x.f0) (ha : ahead ≤ 200) (hb : nb ≤ 50) (hbb : BB bs) :
    Calls Try.prog 3 #[.int .i64 (ahead : Int), .slice A1 n c1, .slice A2 nb c2] w0 fun e w' => e = .returned (.bool true) ∧ Below w0.heap.size w0 w' := by
  subst hn
  obtain ⟨k, hk⟩ := hg
  have HC := Aside0.mk hC
  have HL := Aside0.mk hl
  have HK := Aside0.mk hk
  have HC2 := Aside0.mk hC2
  have HOK := Aside0.mk hok
  have HZ := Aside0.mk hz
  have H60 := Aside0.mk h60
  have HBB := Aside0.mk hbb
  have HNB := Aside0.mk hnb
  have hsl := strP_le hok
  have hml := madeB_len ahead l
  have hsp : 0 < (strP l).length := by unfold strP; simp
  obtain ⟨m, hm⟩ : ∃ m, (madeB ahead l).length = m := ⟨_, rfl⟩
  have HM := Aside0.mk hm
  have hm1 : 1 ≤ m ∧ m ≤ 10000 := by omega
  have hu30 := Aside0.mk Try.underlying30
  have B0 := Aside0.mk (Below.refl w0.heap.size w0)
  clear hC hl hk hC2 hok hz hsl hml hsp hm hbb hnb
  obtain ⟨n, hn⟩ : ∃ n, l.length = n := ⟨_, rfl⟩
  have HN := Aside0.mk hn
  rw [hn] at h60
  rw [hn]
  clear hn
  go_enter Try.func3, Try.ntmps3
  go_upto_region 1 with (fail)
  refine wp_region_lit ?_
  refine RS.t1 14 rfl (by kernel_rfl) (.slice A1 n c1) (by kernel_rfl) ?_
  (try simp only [Act.put, List.setIfInBounds_toArray, List.set_cons_zero, List.set_cons_succ])
  refine RS.tC 15 rfl (by kernel_rfl) (show _ = Result.ok (Next.enter 7 #[.slice A1 n c1]) _ from by kernel_rfl) ?_
  refine ((show Calls Try.prog 7 #[.slice A1 n c1] w0 _ from by rw [← HN.out]; exact sundiallaw04_great.calls k A1 c1 l false w0 HC.out HL.out HK.out)).mono ?_
  rintro e w17_ ⟨rfl, hd_⟩
  have hb_ := hd_.below
  clear hd_
  have B18_ := Aside0.mk (below_step B0.out hb_)
  clear hb_ B0
  refine ⟨_, rfl, ?_⟩
  (try simp only [Act.put, List.setIfInBounds_toArray, List.set_cons_zero, List.set_cons_succ])
  refine RS.t1 16 rfl (by kernel_rfl) (.bool false) (by kernel_rfl) ?_
  (try simp only [Act.put, List.setIfInBounds_toArray, List.set_cons_zero, List.set_cons_succ])
  refine RS.t1 17 rfl (by kernel_rfl) (.int .i64 (ahead : Int)) (by kernel_rfl) ?_
  (try simp only [Act.put, List.setIfInBounds_toArray, List.set_cons_zero, List.set_cons_succ])
  refine RS.t1 18 rfl (by kernel_rfl) (.bool false) (c_lss (k := .i64) (a := (ahead : Int)) (b := 0) (r := false) (decide_eq_false (by omega)) rfl (by kernel_rfl) (by kernel_rfl)) ?_
  (try simp only [Act.put, List.setIfInBounds_toArray, List.set_cons_zero, List.set_cons_succ])
  refine RS.t1 19 rfl (by kernel_rfl) (.bool false) (by kernel_rfl) ?_
  (try simp only [Act.put, List.setIfInBounds_toArray, List.set_cons_zero, List.set_cons_succ])
  refine RS.t1 20 rfl (by kernel_rfl) (.bool false) (by kernel_rfl) ?_
  (try simp only [Act.put, List.setIfInBounds_toArray, List.set_cons_zero, List.set_cons_succ])
  refine RS.t1 21 rfl (by kernel_rfl) (.int .i64 (ahead : Int)) (by kernel_rfl) ?_
  (try simp only [Act.put, List.setIfInBounds_toArray, List.set_cons_zero, List.set_cons_succ])
  refine RS.t1 22 rfl (by kernel_rfl) (.bool false) (c_gtr (k := .i64) (a := (ahead : Int)) (b := 200) (r := false) (decide_eq_false (by omega)) rfl (by kernel_rfl) (by kernel_rfl)) ?_
  (try simp only [Act.put, List.setIfInBounds_toArray, List.set_cons_zero, List.set_cons_succ])
  refine RS.t1 23 rfl (by kernel_rfl) (.bool false) (by kernel_rfl) ?_
  (try simp only [Act.put, List.setIfInBounds_toArray, List.set_cons_zero, List.set_cons_succ])
  refine RS.t1 24 rfl (by kernel_rfl) (.bool false) (by kernel_rfl) ?_
  (try simp only [Act.put, List.setIfInBounds_toArray, List.set_cons_zero, List.set_cons_succ])
  refine RS.t1 25 rfl (by kernel_rfl) (.slice A2 nb c2) (by kernel_rfl) ?_
  (try simp only [Act.put, List.setIfInBounds_toArray, List.set_cons_zero, List.set_cons_succ])
  refine RS.t1 26 rfl (by kernel_rfl) (.int .i64 ((nb : Nat) : Int)) (by kernel_rfl) ?_
  (try simp only [Act.put, List.setIfInBounds_toArray, List.set_cons_zero, List.set_cons_succ])
  refine RS.t1 27 rfl (by kernel_rfl) (.bool false) (c_gtr (k := .i64) (a := ((nb : Nat) : Int)) (b := 50) (r := false) (decide_eq_false (by omega)) rfl (by kernel_rfl) (by kernel_rfl)) ?_
  (try simp only [Act.put, List.setIfInBounds_toArray, List.set_cons_zero, List.set_cons_succ])
  refine RS.t1 28 rfl (by kernel_rfl) (.bool false) (by kernel_rfl) ?_
  (try simp only [Act.put, List.setIfInBounds_toArray, List.set_cons_zero, List.set_cons_succ])
  go_upto_region 3 with (fail)
  refine wp_region_lit ?_
  refine RS.t1 31 rfl (by kernel_rfl) (.int .i64 (ahead : Int)) (by kernel_rfl) ?_
  (try simp only [Act.put, List.setIfInBounds_toArray, List.set_cons_zero, List.set_cons_succ])
  refine RS.t1 32 rfl (by kernel_rfl) (.slice A1 n c1) (by kernel_rfl) ?_
  (try simp only [Act.put, List.setIfInBounds_toArray, List.set_cons_zero, List.set_cons_succ])
  refine RS.tC 33 rfl (by kernel_rfl) (show _ = Result.ok (Next.enter 9 #[.int .i64 (ahead : Int), .slice A1 n c1]) _ from by kernel_rfl) ?_
  refine (made_calls ahead A1 c1 n l w17_ ha (Kd.C_below HC.out B18_.out) HN.out h60 HOK.out).mono ?_
  rintro e wm ⟨gb, capb, As, c3, rfl, hO, hCs, hb3⟩
  rw [HM.out]
  have HBM := Aside0.mk (below_step B18_.out hb3)
  have HO := Aside0.mk hO
  have HCS := Aside0.mk hCs
  have BM := Aside0.mk (Below.refl wm.heap.size wm)
  clear hO hCs hb3
  refine ⟨_, rfl, ?_⟩
  (try simp only [Act.put, List.setIfInBounds_toArray, List.set_cons_zero, List.set_cons_succ])
  refine RS.t1 30 rfl (by kernel_rfl) (.tuple #[.slice (some ⟨gb, 0, none⟩) m capb, .agg #[.int .u64 0, .int .u64 0, .int .u64 0, .slice none 0 0, .slice As 3 c3]]) (by kernel_rfl) ?_
  (try simp only [Act.put, List.setIfInBounds_toArray, List.set_cons_zero, List.set_cons_succ])
  refine RS.t1 34 rfl (by kernel_rfl) (.slice (some ⟨gb, 0, none⟩) m capb) (by kernel_rfl) ?_
  (try simp only [Act.put, List.setIfInBounds_toArray, List.set_cons_zero, List.set_cons_succ])
  refine RS.t1 35 rfl (by kernel_rfl) (.agg #[.int .u64 0, .int .u64 0, .int .u64 0, .slice none 0 0, .slice As 3 c3]) (by kernel_rfl) ?_
  (try simp only [Act.put, List.setIfInBounds_toArray, List.set_cons_zero, List.set_cons_succ])
  obtain ⟨g8, hg_⟩ : ∃ g_, wm.heap.size = g_ := ⟨_, rfl⟩
  refine RS.tE 8 rfl (by kernel_rfl) (v := .pointer (some ⟨g8, 0, none⟩)) ((show _ = Result.ok (.value (.pointer (some ⟨wm.heap.size, 0, none⟩))) (wm.alloc (.cells #[.int .u64 0, .int .u64 0, .int .u64 0, .slice none 0 0, .slice none 0 0] 30 (0, 0))) from by kernel_rfl).trans (by rw [hg_])) ?_
  obtain ⟨w19_, hw_⟩ : ∃ w_, wm.alloc (.cells #[.int .u64 0, .int .u64 0, .int .u64 0, .slice none 0 0, .slice none 0 0] 30 (0, 0)) = w_ := ⟨_, rfl⟩
  rw [hw_]
  have hb_ : Below wm.heap.size wm w19_ := by rw [← hw_]; exact bX_ (Below.refl _ _) _
  have hn_ : w19_.heap[g8]? = some (.cells #[.int .u64 0, .int .u64 0, .int .u64 0, .slice none 0 0, .slice none 0 0] 30 (0, 0)) := by rw [← hw_, ← hg_]; exact World.alloc_heap_new wm _
  have G20_ := Aside0.mk (show wm.heap.size ≤ g8 from by have := BM.out.size; omega)
  have B21_ := Aside0.mk (below_step BM.out hb_)
  have N22_ := Aside0.mk hn_
  clear hw_ hb_ hn_ hg_ BM
  (try simp only [Act.put, List.setIfInBounds_toArray, List.set_cons_zero, List.set_cons_succ])
  refine RS.t1 7 rfl (by kernel_rfl) (.slice (some ⟨gb, 0, none⟩) m capb) (by kernel_rfl) ?_
  (try simp only [Act.put, List.setIfInBounds_toArray, List.set_cons_zero, List.set_cons_succ])
  refine RS.tS rfl (by kernel_rfl) (run_store_row (g := g8) (cells := #[.int .u64 0, .int .u64 0, .int .u64 0, .slice none 0 0, .slice As 3 c3]) rfl (by kernel_rfl) (by kernel_rfl) N22_.out (by kernel_rfl) rfl (by simp [Value.oneCell'])) ?_
  obtain ⟨w23_, hw_⟩ : ∃ w_, w19_.setRow g8 #[.int .u64 0, .int .u64 0, .int .u64 0, .slice none 0 0, .slice As 3 c3] = w_ := ⟨_, rfl⟩
  rw [hw_]
  have B24_ := Aside0.mk (show Below wm.heap.size wm w23_ from by rw [← hw_]; exact below_setRow B21_.out G20_.out _)
  have N25_ := Aside0.mk (show w23_.heap[g8]? = some (.cells #[.int .u64 0, .int .u64 0, .int .u64 0, .slice none 0 0, .slice As 3 c3] 30 (0, 0)) from by rw [← hw_]; exact setRow_heap w19_ g8 _ _ 30 (0, 0) N22_.out)
  clear hw_ B21_ N22_
  go_upto_region 4 with (fail)
  obtain ⟨Q, hQ⟩ : ∃ Q, w23_.heap.size = Q := ⟨_, rfl⟩
  have HQ := Aside0.mk hQ
  clear hQ
  refine RS.wp_choice (C := Value × Value × Value) (by kernel_rfl) (fun c => [(43, Value.tuple #[c.2.2, .int .i64 0]), (36, Value.tuple #[c.2.2, .int .i64 0]), (44, c.2.2), (9, c.2.2)] ++ ((39, c.1) :: (41, c.2.1) :: [(37, Value.slice (some ⟨Q, 0, none⟩) 0 0), (38, .slice (some ⟨gb, 0, none⟩) m capb), (40, .slice A2 nb c2), (42, .agg #[.int .u64 0, .int .u64 0, .int .u64 0, .slice none 0 0, .slice As 3 c3]), (45, .int .i64 0), (10, .int .i64 0)]))
    (fun f c wq => Below w23_.heap.size w23_ wq ∧ (f 0 = false → wq.heap.size = Q) ∧ (f 0 = true → f 2 = false → wq.heap[Q]? = some (.cells #[] 5 (0, 0))) ∧ (f 2 = true → f 4 = false → wq.ownsRow Q 5 1 c.1 (madeB ahead l).length (nums .u8 (madeB ahead l))) ∧ (f 4 = true → wq.ownsRow Q 5 1 c.2.1 (madeB ahead l ++ bs).length (nums .u8 (madeB ahead l ++ bs))) ∧ (f 6 = true → Rd38 w23_ wq c.2.2 (l.map symO))) (by kernel_rfl) (fun c => by kernel_rfl) (undef, undef, undef) (fun f hk => ?_) ?_ ?_
  · exact ⟨bY_ (Below.refl _ _), fun _ => HQ.out, fun e => (by rw [hk 0 (by decide)] at e; cases e), fun e => (by rw [hk 2 (by decide)] at e; cases e), fun e => (by rw [hk 4 (by decide)] at e; cases e), fun e => (by rw [hk 6 (by decide)] at e; cases e)⟩
  · exact ⟨RS.StepC.of (fun c => RS.StepE.event (.slice (some ⟨Q, 0, none⟩) 0 0) (by intro d hd; cases hd; kernel_rfl) (by kernel_rfl) (fun f wq h0 p1 p2 h => by
        have h0 : f 0 = false := h0
        have e2 : f 2 = false := p2 2 (by kernel_rfl) (by decide)
        have e4 : f 4 = false := p2 4 (by kernel_rfl) (by decide)
        have e6 : f 6 = false := p2 6 (by kernel_rfl) (by decide)
        have hq := h.2.1 h0
        refine ⟨wq.alloc (.cells #[] 5 (0, 0)), .inl ((show _ = Result.ok (.value (.slice (some ⟨wq.heap.size, 0, none⟩) 0 0)) (wq.alloc (.cells #[] 5 (0, 0))) from by kernel_rfl).trans (by rw [hq])), h.1.trans ((bX_ (Below.refl _ _) _).mono h.1.size), fun e => (by cases e), fun _ _ => by rw [← hq]; exact World.alloc_heap_new wq _, fun e => ?_, fun e => ?_, fun e => ?_⟩
        · rw [show RS.upd f 0 2 = f 2 from rfl, e2] at e; cases e
        · rw [show RS.upd f 0 4 = f 4 from rfl, e4] at e; cases e
        · rw [show RS.upd f 0 6 = f 6 from rfl, e6] at e; cases e)),
      RS.StepC.of (fun c => RS.StepE.pure 38 (by kernel_rfl) rfl (fun w => by kernel_rfl) (fun f w h => h)),
      RS.StepC.choose (fun c => by kernel_rfl) (fun f c wq h0 p1 p2 h => by
        have h0 : f 2 = false := h0
        have e0 : f 0 = true := p1 0 (by kernel_rfl)
        have e4 : f 4 = false := p2 4 (by kernel_rfl) (by decide)
        have e6 : f 6 = false := p2 6 (by kernel_rfl) (by decide)
        have hm_ : Below wm.heap.size wm wq := B24_.out.trans (h.1.mono B24_.out.size)
        refine app8_choose (n := m) (c := capb) (base := Q) (v := .slice (some ⟨Q, 0, none⟩) 0 0) (xs := []) (ys := madeB ahead l) (own_empty (h.2.2.1 e0 h0) (Nat.le_refl _)) (HO.out.met hm_).C HM.out (by rw [← HQ.out]; exact h.1.size) (by show 0 + m ≤ 10000000; omega) rfl (by kernel_rfl) (by kernel_rfl) (fun v' w' hr ho hgr hat => ?_)
        refine ⟨v', w', (v', c.2), hr, fun d hd => by cases hd; kernel_rfl, RS.agree_of [(2, 39)] (by kernel_rfl) (by kernel_rfl) (by intro x hx; rw [List.mem_singleton.1 hx]; exact h0) (by kernel_rfl), h.1.grown hgr h.1.size (fun k e => by cases e; rw [HQ.out]; exact Nat.le_refl _), fun e => ?_, fun _ e => (by cases e), fun _ _ => by simpa using ho, fun e => ?_, fun e => ?_⟩
        · rw [show RS.upd f 2 0 = f 0 from rfl, e0] at e; cases e
        · rw [show RS.upd f 2 4 = f 4 from rfl, e4] at e; cases e
        · rw [show RS.upd f 2 6 = f 6 from rfl, e6] at e; cases e),
      RS.StepC.of (fun c => RS.StepE.pure 40 (by kernel_rfl) rfl (fun w => by kernel_rfl) (fun f w h => h)),
      RS.StepC.choose (fun c => by kernel_rfl) (fun f c wq h0 p1 p2 h => by
        have h0 : f 4 = false := h0
        have e0 : f 0 = true := p1 0 (by kernel_rfl)
        have e2 : f 2 = true := p1 2 (by kernel_rfl)
        have e6 : f 6 = false := p2 6 (by kernel_rfl) (by decide)
        have h0_ : Below w0.heap.size w0 wq := below_step HBM.out (B24_.out.trans (h.1.mono B24_.out.size))
        refine app8_choose (n := nb) (c := c2) (base := Q) (v := c.1) (xs := madeB ahead l) (ys := bs) (h.2.2.2.1 e2 h0) (Kd.C_below HC2.out h0_) HNB.out (by rw [← HQ.out]; exact h.1.size) (by rw [HM.out]; omega) rfl (by kernel_rfl) (by kernel_rfl) (fun v' w' hr ho hgr hat => ?_)
        refine ⟨v', w', (c.1, v', c.2.2), hr, fun d hd => by cases hd; kernel_rfl, RS.agree_of [(4, 41)] (by kernel_rfl) (by kernel_rfl) (by intro x hx; rw [List.mem_singleton.1 hx]; exact h0) (by kernel_rfl), h.1.grown hgr h.1.size (own_base_ (h.2.2.2.1 e2 h0) HQ.out), fun e => ?_, fun _ e => ?_, fun _ e => (by cases e), fun _ => ho, fun e => ?_⟩
        · rw [show RS.upd f 4 0 = f 0 from rfl, e0] at e; cases e
        · rw [show RS.upd f 4 2 = f 2 from rfl, e2] at e; cases e
        · rw [show RS.upd f 4 6 = f 6 from rfl, e6] at e; cases e),
      RS.StepC.of (fun c => RS.StepE.load 42 (.agg #[.int .u64 0, .int .u64 0, .int .u64 0, .slice none 0 0, .slice As 3 c3]) (by kernel_rfl) (by kernel_rfl) rfl (fun f w h => h) (fun f wq p1 p2 h => load_row (g := g8) (heap_below h.1 N25_.out) hu30.out rfl (by kernel_rfl) rfl (by kernel_rfl))),
      RS.StepC.chooseCall 10 (fun c => #[c.2.1, .agg #[.int .u64 0, .int .u64 0, .int .u64 0, .slice none 0 0, .slice As 3 c3]]) (fun c => by kernel_rfl) (fun c w => by kernel_rfl) (fun f c wq h0 p1 p2 h => by
        have h0 : f 6 = false := h0
        have e0 : f 0 = true := p1 0 (by kernel_rfl)
        have e2 : f 2 = true := p1 2 (by kernel_rfl)
        have e4 : f 4 = true := p1 4 (by kernel_rfl)
        obtain ⟨A4, c4, hv4, hc4, hC4⟩ := own_C8 (h.2.2.2.2.1 e4) (by rw [List.length_append, HM.out, HNB.out]; omega)
        have hm_ : Below wm.heap.size wm wq := B24_.out.trans (h.1.mono B24_.out.size)
        have hcl := (read_calls A4 c4 (madeB ahead l ++ bs) 0 0 0 none 0 0 As c3 3 (secsM ahead l) wq hC4 hc4 (by rw [List.length_append, HM.out, HNB.out]; omega) (BB_append (BB_made _ HOK.out) HBB.out) (.inl (by rw [List.length_append, HM.out]; omega)) (Kd.C_below HCS.out hm_) rfl (by decide) (secs_made ha H60.out HOK.out))
        rw [← hv4] at hcl
        refine hcl.mono ?_
        rintro e w' ⟨v', rfl, hr⟩
        rw [readN_made bs HOK.out HZ.out H60.out] at hr ⊢
        refine ⟨_, (c.1, c.2.1, v'), rfl, fun d hd => by cases hd; kernel_rfl, RS.agree_of [(6, 43), (7, 36), (8, 44), (10, 9)] (by kernel_rfl) (by kernel_rfl) (by
            intro x hx
            simp only [List.mem_cons, List.not_mem_nil, or_false] at hx
            rcases hx with rfl | rfl | rfl | rfl
            · exact h0
            · exact p2 7 (by kernel_rfl) (by decide)
            · exact p2 8 (by kernel_rfl) (by decide)
            · exact p2 10 (by kernel_rfl) (by decide)) (by kernel_rfl), h.1.trans (hr.2.mono h.1.size), fun e => ?_, fun _ e => ?_, fun _ e => ?_, fun _ => own_move (h.2.2.2.2.1 e4) (fun k hk => hr.2.block k (own_lt (h.2.2.2.2.1 e4) k hk)), fun _ => ⟨Kd.R_lower hr.1 h.1.size, h.1.trans (hr.2.mono h.1.size)⟩⟩
        · rw [show RS.upd f 6 0 = f 0 from rfl, e0] at e; cases e
        · rw [show RS.upd f 6 2 = f 2 from rfl, e2] at e; cases e
        · rw [show RS.upd f 6 4 = f 4 from rfl, e4] at e; cases e),
      RS.StepC.of (fun c => RS.StepE.pure 36 (by kernel_rfl) rfl (fun w => by kernel_rfl) (fun f w h => h)),
      RS.StepC.of (fun c => RS.StepE.pure 44 (by kernel_rfl) rfl (fun w => by kernel_rfl) (fun f w h => h)),
      RS.StepC.of (fun c => RS.StepE.pure 45 (by kernel_rfl) rfl (fun w => by kernel_rfl) (fun f w h => h)),
      RS.StepC.of (fun c => RS.StepE.pure 9 (by kernel_rfl) rfl (fun w => by kernel_rfl) (fun f w h => h)),
      RS.StepC.of (fun c => RS.StepE.pure 10 (by kernel_rfl) rfl (fun w => by kernel_rfl) (fun f w h => h)), trivial⟩
  rintro f ⟨v39, v41, v43⟩ wb hk ⟨hb1, -, -, -, -, hr6⟩
  obtain ⟨A9, c9, rfl, -, hC9, -⟩ := (hr6 (hk 6)).form
  rw [List.length_map, HN.out] at hC9
  have B9 := Aside0.mk (B24_.out.trans (hb1.mono B24_.out.size))
  have N9 := Aside0.mk (heap_below hb1 N25_.out)
  have C9 := Aside0.mk hC9
  clear hb1 hr6 hC9 hk
  (try simp only [List.cons_append, List.nil_append, RS.sets, List.setIfInBounds_toArray, List.set_cons_zero, List.set_cons_succ])
  simp only [List.length_map, HN.out]
  go_upto_region 5 with (fail)
  refine wp_region_lit ?_
  refine RS.t1 46 rfl (by kernel_rfl) (.int .i64 0) (by kernel_rfl) ?_
  (try simp only [Act.put, List.setIfInBounds_toArray, List.set_cons_zero, List.set_cons_succ])
  refine RS.t1 47 rfl (by kernel_rfl) (.bool false) (by kernel_rfl) ?_
  (try simp only [Act.put, List.setIfInBounds_toArray, List.set_cons_zero, List.set_cons_succ])
  refine RS.t1 48 rfl (by kernel_rfl) (.bool false) (by kernel_rfl) ?_
  (try simp only [Act.put, List.setIfInBounds_toArray, List.set_cons_zero, List.set_cons_succ])
  refine RS.t1 49 rfl (by kernel_rfl) (.slice A9 n c9) (by kernel_rfl) ?_
  (try simp only [Act.put, List.setIfInBounds_toArray, List.set_cons_zero, List.set_cons_succ])
  refine RS.t1 50 rfl (by kernel_rfl) (.int .i64 ((n : Nat) : Int)) (by kernel_rfl) ?_
  (try simp only [Act.put, List.setIfInBounds_toArray, List.set_cons_zero, List.set_cons_succ])
  refine RS.t1 51 rfl (by kernel_rfl) (.slice A1 n c1) (by kernel_rfl) ?_
  (try simp only [Act.put, List.setIfInBounds_toArray, List.set_cons_zero, List.set_cons_succ])
  refine RS.t1 52 rfl (by kernel_rfl) (.int .i64 ((n : Nat) : Int)) (by kernel_rfl) ?_
  (try simp only [Act.put, List.setIfInBounds_toArray, List.set_cons_zero, List.set_cons_succ])
  refine RS.t1 53 rfl (by kernel_rfl) (.bool false) (n_neq (a := n) (b := n) (r := false) (decide_eq_true (show n = n from by omega)) rfl (by kernel_rfl) (by kernel_rfl)) ?_
  (try simp only [Act.put, List.setIfInBounds_toArray, List.set_cons_zero, List.set_cons_succ])
  refine RS.t1 54 rfl (by kernel_rfl) (.bool false) (by kernel_rfl) ?_
  (try simp only [Act.put, List.setIfInBounds_toArray, List.set_cons_zero, List.set_cons_succ])
  go_upto_region 7 with (fail)
  refine RS.wp_textE [(11, .int .i64 ((0 : Nat) : Int))] (fun f w => wb = w) (by kernel_rfl) (by kernel_rfl) (fun f hf => ?_) ?_ ?_
  · rfl
  · exact ⟨RS.StepE.pure 11 (by kernel_rfl) rfl (fun w => by kernel_rfl) (fun f w h => h), trivial⟩
  rintro f wx hf rfl
  clear hf
  (try simp only [RS.sets, List.setIfInBounds_toArray, List.set_cons_zero, List.set_cons_succ])
  go_upto_region 8 with (fail)
  go_loopw [11] (fun t wr => ∃ i : Nat, i ≤ n ∧ t = .int .i64 (i : Int) ∧ Below wb.heap.size wb wr) (fun t _ => ((n : Int) - intOf t).toNat)
  case atStart => exact ⟨0, Nat.zero_le _, rfl, Below.refl _ _⟩
  case round =>
    obtain ⟨i, hi, rfl, hbr⟩ := hrel
    have BR := Aside0.mk hbr
    clear hbr
    by_cases hin : i < n
    · go_upto_region 8 with (fail)
      refine RS.wp_textE [(55, .int .i64 ((i : Nat) : Int)), (56, .slice A1 n c1), (57, .int .i64 ((n : Nat) : Int)), (58, .bool true)] (fun f w => wr = w) (by kernel_rfl) (by kernel_rfl) (fun f hf => ?_) ?_ ?_
      · rfl
      · exact ⟨RS.StepE.pure 55 (by kernel_rfl) rfl (fun w => by kernel_rfl) (fun f w h => h),
          RS.StepE.pure 56 (by kernel_rfl) rfl (fun w => by kernel_rfl) (fun f w h => h),
          RS.StepE.pure 57 (by kernel_rfl) rfl (fun w => by kernel_rfl) (fun f w h => h),
          RS.StepE.load 58 (.bool true) (by kernel_rfl) (by kernel_rfl) rfl (fun f w h => h) (fun f w p1 p2 h => n_lss (a := i) (b := n) (r := true) (decide_eq_true (show i < n from by omega)) rfl (by kernel_rfl) (by kernel_rfl)), trivial⟩
      rintro f wx hf rfl
      clear hf
      (try simp only [RS.sets, List.setIfInBounds_toArray, List.set_cons_zero, List.set_cons_succ])
      obtain ⟨ad, ea, hy0, hy1, hy2, hy3, hy4⟩ := el41 (Kd.C_below HC.out (below_step HBM.out (B9.out.trans (BR.out.mono B9.out.size)))) HN.out i hin
      subst ea
      obtain ⟨ar, ear, -, hx0, hx1, hx2, hx3⟩ := el38 (C := l.map symO) (n := n) (Kd.C_below (by rw [List.length_map, HN.out]; exact C9.out) BR.out) (by rw [List.length_map]; exact HN.out) i hin
      subst ear
      rw [sym_at l i (by rw [HN.out]; exact hin)] at hx0 hx1 hx2 hx3
      generalize l.getD i z41 = x at hx0 hx1 hx2 hx3 hy0 hy1 hy2 hy3 hy4
      obtain ⟨x0, x1, x2, x3, x4⟩ := x
      obtain ⟨fb, hfb⟩ : ∃ fb, ((bits .and .u8 x1 15 == 2) && !(x2 == 0)) = fb := ⟨_, rfl⟩
      have hx3 : wr.cell? ⟨(ar.add (i * 4)).block, (ar.add (i * 4)).off + 3, none⟩ = some (.bool fb) := by rw [← hfb]; exact hx3
      have X0 := Aside0.mk hx0
      have X1 := Aside0.mk hx1
      have X2 := Aside0.mk hx2
      have X3 := Aside0.mk hx3
      have Y0 := Aside0.mk hy0
      have Y1 := Aside0.mk hy1
      have Y2 := Aside0.mk hy2
      have Y3 := Aside0.mk hy3
      have Y4 := Aside0.mk hy4
      clear hx0 hx1 hx2 hx3 hy0 hy1 hy2 hy3 hy4
      by_cases h2 : (bits .and .u8 x1 15 == 2) = true
      · rw [h2, Bool.true_and] at hfb
        have HFB := Aside0.mk hfb
        have H2 := Aside0.mk h2
        clear hfb h2
        go_upto_region 10 with (fail)
        refine RS.wp_events (by kernel_rfl) [(61, .slice (some ar) n c9), (62, .int .i64 ((i : Nat) : Int)), (63, .pointer (some (ar.add (i * 4)))), (64, .pointer (some (ar.add (i * 4)))), (65, .string x0), (66, .slice (some ad) n c1), (67, .int .i64 ((i : Nat) : Int)), (68, .pointer (some (ad.add (i * 5)))), (69, .pointer (some (ad.add (i * 5)))), (70, .string x0), (71, .bool false), (72, .bool false), (73, .slice (some ar) n c9), (74, .int .i64 ((i : Nat) : Int)), (75, .pointer (some (ar.add (i * 4)))), (76, .pointer (some ⟨(ar.add (i * 4)).block, (ar.add (i * 4)).off + 1, none⟩)), (77, .int .u64 x3), (78, .slice (some ad) n c1), (79, .int .i64 ((i : Nat) : Int)), (80, .pointer (some (ad.add (i * 5)))), (81, .pointer (some ⟨(ad.add (i * 5)).block, (ad.add (i * 5)).off + 3, none⟩)), (82, .int .u64 x3), (83, .bool false), (84, .bool false), (85, .bool false), (86, .slice (some ar) n c9), (87, .int .i64 ((i : Nat) : Int)), (88, .pointer (some (ar.add (i * 4)))), (89, .pointer (some ⟨(ar.add (i * 4)).block, (ar.add (i * 4)).off + 2, none⟩)), (90, .int .u64 x4), (91, .slice (some ad) n c1), (92, .int .i64 ((i : Nat) : Int)), (93, .pointer (some (ad.add (i * 5)))), (94, .pointer (some ⟨(ad.add (i * 5)).block, (ad.add (i * 5)).off + 4, none⟩)), (95, .int .u64 x4), (96, .bool false), (97, .bool false), (98, .bool false), (99, .slice (some ar) n c9), (100, .int .i64 ((i : Nat) : Int)), (101, .pointer (some (ar.add (i * 4)))), (102, .pointer (some ⟨(ar.add (i * 4)).block, (ar.add (i * 4)).off + 3, none⟩)), (103, .bool fb), (104, .slice (some ad) n c1), (105, .int .i64 ((i : Nat) : Int)), (106, .pointer (some (ad.add (i * 5)))), (107, .pointer (some ⟨(ad.add (i * 5)).block, (ad.add (i * 5)).off + 1, none⟩)), (108, .int .u8 x1), (109, .int .u8 (bits .and .u8 x1 15)), (110, .bool true), (111, .bool true), (112, .slice (some ad) n c1), (113, .int .i64 ((i : Nat) : Int)), (114, .pointer (some (ad.add (i * 5)))), (115, .pointer (some ⟨(ad.add (i * 5)).block, (ad.add (i * 5)).off + 2, none⟩)), (116, .int .u16 x2), (117, .bool fb), (118, .bool fb), (119, .bool false), (120, .bool false)] (fun f wq => Below wr.heap.size wr wq) (by kernel_rfl) (by kernel_rfl) (fun f hf => ?_) ?_ ?_
        · exact bY_ (Below.refl _ _)
        · exact ⟨RS.StepE.pure 61 (by kernel_rfl) rfl (fun w => by kernel_rfl) (fun f w h => h),
            RS.StepE.pure 62 (by kernel_rfl) rfl (fun w => by kernel_rfl) (fun f w h => h),
            RS.StepE.load 63 (.pointer (some (ar.add (i * 4)))) (by kernel_rfl) (by kernel_rfl) rfl (fun f w h => h) (fun f wq p1 p2 h => idx33 (n := n) (c := c9) (i := i) hin rfl (by kernel_rfl) (by kernel_rfl)),
            RS.StepE.pure 64 (by kernel_rfl) rfl (fun w => by kernel_rfl) (fun f w h => h),
            RS.StepE.load 65 (.string x0) (by kernel_rfl) (by kernel_rfl) rfl (fun f w h => h) (fun f wq p1 p2 h => ld (d := .string) Try.underlying9 rfl (pw_cell_below h X0.out) rfl (by kernel_rfl)),
            RS.StepE.pure 66 (by kernel_rfl) rfl (fun w => by kernel_rfl) (fun f w h => h),
            RS.StepE.pure 67 (by kernel_rfl) rfl (fun w => by kernel_rfl) (fun f w h => h),
            RS.StepE.load 68 (.pointer (some (ad.add (i * 5)))) (by kernel_rfl) (by kernel_rfl) rfl (fun f w h => h) (fun f wq p1 p2 h => idx22 (n := n) (c := c1) (i := i) hin rfl (by kernel_rfl) (by kernel_rfl)),
            RS.StepE.pure 69 (by kernel_rfl) rfl (fun w => by kernel_rfl) (fun f w h => h),
            RS.StepE.load 70 (.string x0) (by kernel_rfl) (by kernel_rfl) rfl (fun f w h => h) (fun f wq p1 p2 h => ld (d := .string) Try.underlying9 rfl (pw_cell_below h Y0.out) rfl (by kernel_rfl)),
            RS.StepE.load 71 (.bool false) (by kernel_rfl) (by kernel_rfl) rfl (fun f w h => h) (fun f wq p1 p2 h => s_neq (a := x0) rfl (by kernel_rfl) (by kernel_rfl)),
            RS.StepE.pure 72 (by kernel_rfl) rfl (fun w => by kernel_rfl) (fun f w h => h),
            RS.StepE.pure 73 (by kernel_rfl) rfl (fun w => by kernel_rfl) (fun f w h => h),
            RS.StepE.pure 74 (by kernel_rfl) rfl (fun w => by kernel_rfl) (fun f w h => h),
            RS.StepE.load 75 (.pointer (some (ar.add (i * 4)))) (by kernel_rfl) (by kernel_rfl) rfl (fun f w h => h) (fun f wq p1 p2 h => idx33 (n := n) (c := c9) (i := i) hin rfl (by kernel_rfl) (by kernel_rfl)),
            RS.StepE.pure 76 (by kernel_rfl) rfl (fun w => by kernel_rfl) (fun f w h => h),
            RS.StepE.load 77 (.int .u64 x3) (by kernel_rfl) (by kernel_rfl) rfl (fun f w h => h) (fun f wq p1 p2 h => ld (d := .int .u64) Try.underlying26 rfl (pw_cell_below h X1.out) rfl (by kernel_rfl)),
            RS.StepE.pure 78 (by kernel_rfl) rfl (fun w => by kernel_rfl) (fun f w h => h),
            RS.StepE.pure 79 (by kernel_rfl) rfl (fun w => by kernel_rfl) (fun f w h => h),
            RS.StepE.load 80 (.pointer (some (ad.add (i * 5)))) (by kernel_rfl) (by kernel_rfl) rfl (fun f w h => h) (fun f wq p1 p2 h => idx22 (n := n) (c := c1) (i := i) hin rfl (by kernel_rfl) (by kernel_rfl)),
            RS.StepE.pure 81 (by kernel_rfl) rfl (fun w => by kernel_rfl) (fun f w h => h),
            RS.StepE.load 82 (.int .u64 x3) (by kernel_rfl) (by kernel_rfl) rfl (fun f w h => h) (fun f wq p1 p2 h => ld (d := .int .u64) Try.underlying26 rfl (pw_cell_below h Y3.out) rfl (by kernel_rfl)),
            RS.StepE.load 83 (.bool false) (by kernel_rfl) (by kernel_rfl) rfl (fun f w h => h) (fun f wq p1 p2 h => c_neq (k := .u64) (a := x3) (b := x3) (r := false) (by simp) rfl (by kernel_rfl) (by kernel_rfl)),
            RS.StepE.pure 84 (by kernel_rfl) rfl (fun w => by kernel_rfl) (fun f w h => h),
            RS.StepE.pure 85 (by kernel_rfl) rfl (fun w => by kernel_rfl) (fun f w h => h),
            RS.StepE.pure 86 (by kernel_rfl) rfl (fun w => by kernel_rfl) (fun f w h => h),
            RS.StepE.pure 87 (by kernel_rfl) rfl (fun w => by kernel_rfl) (fun f w h => h),
            RS.StepE.load 88 (.pointer (some (ar.add (i * 4)))) (by kernel_rfl) (by kernel_rfl) rfl (fun f w h => h) (fun f wq p1 p2 h => idx33 (n := n) (c := c9) (i := i) hin rfl (by kernel_rfl) (by kernel_rfl)),
            RS.StepE.pure 89 (by kernel_rfl) rfl (fun w => by kernel_rfl) (fun f w h => h),
            RS.StepE.load 90 (.int .u64 x4) (by kernel_rfl) (by kernel_rfl) rfl (fun f w h => h) (fun f wq p1 p2 h => ld (d := .int .u64) Try.underlying26 rfl (pw_cell_below h X2.out) rfl (by kernel_rfl)),
            RS.StepE.pure 91 (by kernel_rfl) rfl (fun w => by kernel_rfl) (fun f w h => h),
            RS.StepE.pure 92 (by kernel_rfl) rfl (fun w => by kernel_rfl) (fun f w h => h),
            RS.StepE.load 93 (.pointer (some (ad.add (i * 5)))) (by kernel_rfl) (by kernel_rfl) rfl (fun f w h => h) (fun f wq p1 p2 h => idx22 (n := n) (c := c1) (i := i) hin rfl (by kernel_rfl) (by kernel_rfl)),
            RS.StepE.pure 94 (by kernel_rfl) rfl (fun w => by kernel_rfl) (fun f w h => h),
            RS.StepE.load 95 (.int .u64 x4) (by kernel_rfl) (by kernel_rfl) rfl (fun f w h => h) (fun f wq p1 p2 h => ld (d := .int .u64) Try.underlying26 rfl (pw_cell_below h Y4.out) rfl (by kernel_rfl)),
            RS.StepE.load 96 (.bool false) (by kernel_rfl) (by kernel_rfl) rfl (fun f w h => h) (fun f wq p1 p2 h => c_neq (k := .u64) (a := x4) (b := x4) (r := false) (by simp) rfl (by kernel_rfl) (by kernel_rfl)),
            RS.StepE.pure 97 (by kernel_rfl) rfl (fun w => by kernel_rfl) (fun f w h => h),
            RS.StepE.pure 98 (by kernel_rfl) rfl (fun w => by kernel_rfl) (fun f w h => h),
            RS.StepE.pure 99 (by kernel_rfl) rfl (fun w => by kernel_rfl) (fun f w h => h),
            RS.StepE.pure 100 (by kernel_rfl) rfl (fun w => by kernel_rfl) (fun f w h => h),
            RS.StepE.load 101 (.pointer (some (ar.add (i * 4)))) (by kernel_rfl) (by kernel_rfl) rfl (fun f w h => h) (fun f wq p1 p2 h => idx33 (n := n) (c := c9) (i := i) hin rfl (by kernel_rfl) (by kernel_rfl)),
            RS.StepE.pure 102 (by kernel_rfl) rfl (fun w => by kernel_rfl) (fun f w h => h),
            RS.StepE.load 103 (.bool fb) (by kernel_rfl) (by kernel_rfl) rfl (fun f w h => h) (fun f wq p1 p2 h => ld (d := .bool) Try.underlying4 rfl (pw_cell_below h X3.out) rfl (by kernel_rfl)),
            RS.StepE.pure 104 (by kernel_rfl) rfl (fun w => by kernel_rfl) (fun f w h => h),
            RS.StepE.pure 105 (by kernel_rfl) rfl (fun w => by kernel_rfl) (fun f w h => h),
            RS.StepE.load 106 (.pointer (some (ad.add (i * 5)))) (by kernel_rfl) (by kernel_rfl) rfl (fun f w h => h) (fun f wq p1 p2 h => idx22 (n := n) (c := c1) (i := i) hin rfl (by kernel_rfl) (by kernel_rfl)),
            RS.StepE.pure 107 (by kernel_rfl) rfl (fun w => by kernel_rfl) (fun f w h => h),
            RS.StepE.load 108 (.int .u8 x1) (by kernel_rfl) (by kernel_rfl) rfl (fun f w h => h) (fun f wq p1 p2 h => ld (d := .int .u8) Try.underlying5 rfl (pw_cell_below h Y1.out) rfl (by kernel_rfl)),
            RS.StepE.load 109 (.int .u8 (bits .and .u8 x1 15)) (by kernel_rfl) (by kernel_rfl) rfl (fun f w h => h) (fun f wq p1 p2 h => run_bin rfl (by kernel_rfl) (by kernel_rfl) (by kernel_rfl) (and_u8 wq)),
            RS.StepE.load 110 (.bool true) (by kernel_rfl) (by kernel_rfl) rfl (fun f w h => h) (fun f wq p1 p2 h => c_eql (k := .u8) (a := bits .and .u8 x1 15) (b := 2) (r := true) H2.out rfl (by kernel_rfl) (by kernel_rfl)),
            RS.StepE.pure 111 (by kernel_rfl) rfl (fun w => by kernel_rfl) (fun f w h => h),
            RS.StepE.pure 112 (by kernel_rfl) rfl (fun w => by kernel_rfl) (fun f w h => h),
            RS.StepE.pure 113 (by kernel_rfl) rfl (fun w => by kernel_rfl) (fun f w h => h),
            RS.StepE.load 114 (.pointer (some (ad.add (i * 5)))) (by kernel_rfl) (by kernel_rfl) rfl (fun f w h => h) (fun f wq p1 p2 h => idx22 (n := n) (c := c1) (i := i) hin rfl (by kernel_rfl) (by kernel_rfl)),
            RS.StepE.pure 115 (by kernel_rfl) rfl (fun w => by kernel_rfl) (fun f w h => h),
            RS.StepE.load 116 (.int .u16 x2) (by kernel_rfl) (by kernel_rfl) rfl (fun f w h => h) (fun f wq p1 p2 h => ld (d := .int .u16) Try.underlying39 rfl (pw_cell_below h Y2.out) rfl (by kernel_rfl)),
            RS.StepE.load 117 (.bool fb) (by kernel_rfl) (by kernel_rfl) rfl (fun f w h => h) (fun f wq p1 p2 h => c_neq (k := .u16) (a := x2) (b := 0) (r := fb) HFB.out rfl (by kernel_rfl) (by kernel_rfl)),
            RS.StepE.pure 118 (by kernel_rfl) rfl (fun w => by kernel_rfl) (fun f w h => h),
            RS.StepE.load 119 (.bool false) (by kernel_rfl) (by kernel_rfl) rfl (fun f w h => h) (fun f wq p1 p2 h => b_neq (a := fb) rfl (by kernel_rfl) (by kernel_rfl)),
            RS.StepE.pure 120 (by kernel_rfl) rfl (fun w => by kernel_rfl) (fun f w h => h), trivial⟩
        rintro f w2 hf hs
        have BR2 := Aside0.mk (below_step BR.out hs)
        clear hf hs
        (try simp only [RS.sets, List.setIfInBounds_toArray, List.set_cons_zero, List.set_cons_succ])
        go_wp2_with fail
        exact ⟨⟨i + 1, by omega, by go_num, BR2.out⟩, by simp [intOf]; omega⟩
      · have h2 := Bool.eq_false_iff.mpr h2
        rw [h2, Bool.false_and] at hfb
        subst hfb
        have H2 := Aside0.mk h2
        clear h2
        go_upto_region 10 with (fail)
        refine RS.wp_events (by kernel_rfl) [(61, .slice (some ar) n c9), (62, .int .i64 ((i : Nat) : Int)), (63, .pointer (some (ar.add (i * 4)))), (64, .pointer (some (ar.add (i * 4)))), (65, .string x0), (66, .slice (some ad) n c1), (67, .int .i64 ((i : Nat) : Int)), (68, .pointer (some (ad.add (i * 5)))), (69, .pointer (some (ad.add (i * 5)))), (70, .string x0), (71, .bool false), (72, .bool false), (73, .slice (some ar) n c9), (74, .int .i64 ((i : Nat) : Int)), (75, .pointer (some (ar.add (i * 4)))), (76, .pointer (some ⟨(ar.add (i * 4)).block, (ar.add (i * 4)).off + 1, none⟩)), (77, .int .u64 x3), (78, .slice (some ad) n c1), (79, .int .i64 ((i : Nat) : Int)), (80, .pointer (some (ad.add (i * 5)))), (81, .pointer (some ⟨(ad.add (i * 5)).block, (ad.add (i * 5)).off + 3, none⟩)), (82, .int .u64 x3), (83, .bool false), (84, .bool false), (85, .bool false), (86, .slice (some ar) n c9), (87, .int .i64 ((i : Nat) : Int)), (88, .pointer (some (ar.add (i * 4)))), (89, .pointer (some ⟨(ar.add (i * 4)).block, (ar.add (i * 4)).off + 2, none⟩)), (90, .int .u64 x4), (91, .slice (some ad) n c1), (92, .int .i64 ((i : Nat) : Int)), (93, .pointer (some (ad.add (i * 5)))), (94, .pointer (some ⟨(ad.add (i * 5)).block, (ad.add (i * 5)).off + 4, none⟩)), (95, .int .u64 x4), (96, .bool false), (97, .bool false), (98, .bool false), (99, .slice (some ar) n c9), (100, .int .i64 ((i : Nat) : Int)), (101, .pointer (some (ar.add (i * 4)))), (102, .pointer (some ⟨(ar.add (i * 4)).block, (ar.add (i * 4)).off + 3, none⟩)), (103, .bool false), (104, .slice (some ad) n c1), (105, .int .i64 ((i : Nat) : Int)), (106, .pointer (some (ad.add (i * 5)))), (107, .pointer (some ⟨(ad.add (i * 5)).block, (ad.add (i * 5)).off + 1, none⟩)), (108, .int .u8 x1), (109, .int .u8 (bits .and .u8 x1 15)), (110, .bool false), (111, .bool false), (112, undef), (113, undef), (114, undef), (115, undef), (116, undef), (117, undef), (118, .bool false), (119, .bool false), (120, .bool false)] (fun f wq => Below wr.heap.size wr wq) (by kernel_rfl) (by kernel_rfl) (fun f hf => ?_) ?_ ?_
        · exact bY_ (Below.refl _ _)
        · exact ⟨RS.StepE.pure 61 (by kernel_rfl) rfl (fun w => by kernel_rfl) (fun f w h => h),
            RS.StepE.pure 62 (by kernel_rfl) rfl (fun w => by kernel_rfl) (fun f w h => h),
            RS.StepE.load 63 (.pointer (some (ar.add (i * 4)))) (by kernel_rfl) (by kernel_rfl) rfl (fun f w h => h) (fun f wq p1 p2 h => idx33 (n := n) (c := c9) (i := i) hin rfl (by kernel_rfl) (by kernel_rfl)),
            RS.StepE.pure 64 (by kernel_rfl) rfl (fun w => by kernel_rfl) (fun f w h => h),
            RS.StepE.load 65 (.string x0) (by kernel_rfl) (by kernel_rfl) rfl (fun f w h => h) (fun f wq p1 p2 h => ld (d := .string) Try.underlying9 rfl (pw_cell_below h X0.out) rfl (by kernel_rfl)),
            RS.StepE.pure 66 (by kernel_rfl) rfl (fun w => by kernel_rfl) (fun f w h => h),
            RS.StepE.pure 67 (by kernel_rfl) rfl (fun w => by kernel_rfl) (fun f w h => h),
            RS.StepE.load 68 (.pointer (some (ad.add (i * 5)))) (by kernel_rfl) (by kernel_rfl) rfl (fun f w h => h) (fun f wq p1 p2 h => idx22 (n := n) (c := c1) (i := i) hin rfl (by kernel_rfl) (by kernel_rfl)),
            RS.StepE.pure 69 (by kernel_rfl) rfl (fun w => by kernel_rfl) (fun f w h => h),
            RS.StepE.load 70 (.string x0) (by kernel_rfl) (by kernel_rfl) rfl (fun f w h => h) (fun f wq p1 p2 h => ld (d := .string) Try.underlying9 rfl (pw_cell_below h Y0.out) rfl (by kernel_rfl)),
            RS.StepE.load 71 (.bool false) (by kernel_rfl) (by kernel_rfl) rfl (fun f w h => h) (fun f wq p1 p2 h => s_neq (a := x0) rfl (by kernel_rfl) (by kernel_rfl)),
            RS.StepE.pure 72 (by kernel_rfl) rfl (fun w => by kernel_rfl) (fun f w h => h),
            RS.StepE.pure 73 (by kernel_rfl) rfl (fun w => by kernel_rfl) (fun f w h => h),
            RS.StepE.pure 74 (by kernel_rfl) rfl (fun w => by kernel_rfl) (fun f w h => h),
            RS.StepE.load 75 (.pointer (some (ar.add (i * 4)))) (by kernel_rfl) (by kernel_rfl) rfl (fun f w h => h) (fun f wq p1 p2 h => idx33 (n := n) (c := c9) (i := i) hin rfl (by kernel_rfl) (by kernel_rfl)),
            RS.StepE.pure 76 (by kernel_rfl) rfl (fun w => by kernel_rfl) (fun f w h => h),
            RS.StepE.load 77 (.int .u64 x3) (by kernel_rfl) (by kernel_rfl) rfl (fun f w h => h) (fun f wq p1 p2 h => ld (d := .int .u64) Try.underlying26 rfl (pw_cell_below h X1.out) rfl (by kernel_rfl)),
            RS.StepE.pure 78 (by kernel_rfl) rfl (fun w => by kernel_rfl) (fun f w h => h),
            RS.StepE.pure 79 (by kernel_rfl) rfl (fun w => by kernel_rfl) (fun f w h => h),
            RS.StepE.load 80 (.pointer (some (ad.add (i * 5)))) (by kernel_rfl) (by kernel_rfl) rfl (fun f w h => h) (fun f wq p1 p2 h => idx22 (n := n) (c := c1) (i := i) hin rfl (by kernel_rfl) (by kernel_rfl)),
            RS.StepE.pure 81 (by kernel_rfl) rfl (fun w => by kernel_rfl) (fun f w h => h),
            RS.StepE.load 82 (.int .u64 x3) (by kernel_rfl) (by kernel_rfl) rfl (fun f w h => h) (fun f wq p1 p2 h => ld (d := .int .u64) Try.underlying26 rfl (pw_cell_below h Y3.out) rfl (by kernel_rfl)),
            RS.StepE.load 83 (.bool false) (by kernel_rfl) (by kernel_rfl) rfl (fun f w h => h) (fun f wq p1 p2 h => c_neq (k := .u64) (a := x3) (b := x3) (r := false) (by simp) rfl (by kernel_rfl) (by kernel_rfl)),
            RS.StepE.pure 84 (by kernel_rfl) rfl (fun w => by kernel_rfl) (fun f w h => h),
            RS.StepE.pure 85 (by kernel_rfl) rfl (fun w => by kernel_rfl) (fun f w h => h),
            RS.StepE.pure 86 (by kernel_rfl) rfl (fun w => by kernel_rfl) (fun f w h => h),
            RS.StepE.pure 87 (by kernel_rfl) rfl (fun w => by kernel_rfl) (fun f w h => h),
            RS.StepE.load 88 (.pointer (some (ar.add (i * 4)))) (by kernel_rfl) (by kernel_rfl) rfl (fun f w h => h) (fun f wq p1 p2 h => idx33 (n := n) (c := c9) (i := i) hin rfl (by kernel_rfl) (by kernel_rfl)),
            RS.StepE.pure 89 (by kernel_rfl) rfl (fun w => by kernel_rfl) (fun f w h => h),
            RS.StepE.load 90 (.int .u64 x4) (by kernel_rfl) (by kernel_rfl) rfl (fun f w h => h) (fun f wq p1 p2 h => ld (d := .int .u64) Try.underlying26 rfl (pw_cell_below h X2.out) rfl (by kernel_rfl)),
            RS.StepE.pure 91 (by kernel_rfl) rfl (fun w => by kernel_rfl) (fun f w h => h),
            RS.StepE.pure 92 (by kernel_rfl) rfl (fun w => by kernel_rfl) (fun f w h => h),
            RS.StepE.load 93 (.pointer (some (ad.add (i * 5)))) (by kernel_rfl) (by kernel_rfl) rfl (fun f w h => h) (fun f wq p1 p2 h => idx22 (n := n) (c := c1) (i := i) hin rfl (by kernel_rfl) (by kernel_rfl)),
            RS.StepE.pure 94 (by kernel_rfl) rfl (fun w => by kernel_rfl) (fun f w h => h),
            RS.StepE.load 95 (.int .u64 x4) (by kernel_rfl) (by kernel_rfl) rfl (fun f w h => h) (fun f wq p1 p2 h => ld (d := .int .u64) Try.underlying26 rfl (pw_cell_below h Y4.out) rfl (by kernel_rfl)),
            RS.StepE.load 96 (.bool false) (by kernel_rfl) (by kernel_rfl) rfl (fun f w h => h) (fun f wq p1 p2 h => c_neq (k := .u64) (a := x4) (b := x4) (r := false) (by simp) rfl (by kernel_rfl) (by kernel_rfl)),
            RS.StepE.pure 97 (by kernel_rfl) rfl (fun w => by kernel_rfl) (fun f w h => h),
            RS.StepE.pure 98 (by kernel_rfl) rfl (fun w => by kernel_rfl) (fun f w h => h),
            RS.StepE.pure 99 (by kernel_rfl) rfl (fun w => by kernel_rfl) (fun f w h => h),
            RS.StepE.pure 100 (by kernel_rfl) rfl (fun w => by kernel_rfl) (fun f w h => h),
            RS.StepE.load 101 (.pointer (some (ar.add (i * 4)))) (by kernel_rfl) (by kernel_rfl) rfl (fun f w h => h) (fun f wq p1 p2 h => idx33 (n := n) (c := c9) (i := i) hin rfl (by kernel_rfl) (by kernel_rfl)),
            RS.StepE.pure 102 (by kernel_rfl) rfl (fun w => by kernel_rfl) (fun f w h => h),
            RS.StepE.load 103 (.bool false) (by kernel_rfl) (by kernel_rfl) rfl (fun f w h => h) (fun f wq p1 p2 h => ld (d := .bool) Try.underlying4 rfl (pw_cell_below h X3.out) rfl (by kernel_rfl)),
            RS.StepE.pure 104 (by kernel_rfl) rfl (fun w => by kernel_rfl) (fun f w h => h),
            RS.StepE.pure 105 (by kernel_rfl) rfl (fun w => by kernel_rfl) (fun f w h => h),
            RS.StepE.load 106 (.pointer (some (ad.add (i * 5)))) (by kernel_rfl) (by kernel_rfl) rfl (fun f w h => h) (fun f wq p1 p2 h => idx22 (n := n) (c := c1) (i := i) hin rfl (by kernel_rfl) (by kernel_rfl)),
            RS.StepE.pure 107 (by kernel_rfl) rfl (fun w => by kernel_rfl) (fun f w h => h),
            RS.StepE.load 108 (.int .u8 x1) (by kernel_rfl) (by kernel_rfl) rfl (fun f w h => h) (fun f wq p1 p2 h => ld (d := .int .u8) Try.underlying5 rfl (pw_cell_below h Y1.out) rfl (by kernel_rfl)),
            RS.StepE.load 109 (.int .u8 (bits .and .u8 x1 15)) (by kernel_rfl) (by kernel_rfl) rfl (fun f w h => h) (fun f wq p1 p2 h => run_bin rfl (by kernel_rfl) (by kernel_rfl) (by kernel_rfl) (and_u8 wq)),
            RS.StepE.load 110 (.bool false) (by kernel_rfl) (by kernel_rfl) rfl (fun f w h => h) (fun f wq p1 p2 h => c_eql (k := .u8) (a := bits .and .u8 x1 15) (b := 2) (r := false) H2.out rfl (by kernel_rfl) (by kernel_rfl)),
            RS.StepE.pure 111 (by kernel_rfl) rfl (fun w => by kernel_rfl) (fun f w h => h),
            RS.StepE.off 112 (by kernel_rfl) rfl (by kernel_rfl) (fun f w h => h),
            RS.StepE.off 113 (by kernel_rfl) rfl (by kernel_rfl) (fun f w h => h),
            RS.StepE.off 114 (by kernel_rfl) rfl (by kernel_rfl) (fun f w h => h),
            RS.StepE.off 115 (by kernel_rfl) rfl (by kernel_rfl) (fun f w h => h),
            RS.StepE.off 116 (by kernel_rfl) rfl (by kernel_rfl) (fun f w h => h),
            RS.StepE.off 117 (by kernel_rfl) rfl (by kernel_rfl) (fun f w h => h),
            RS.StepE.pure 118 (by kernel_rfl) rfl (fun w => by kernel_rfl) (fun f w h => h),
            RS.StepE.load 119 (.bool false) (by kernel_rfl) (by kernel_rfl) rfl (fun f w h => h) (fun f wq p1 p2 h => b_neq (a := false) rfl (by kernel_rfl) (by kernel_rfl)),
            RS.StepE.pure 120 (by kernel_rfl) rfl (fun w => by kernel_rfl) (fun f w h => h), trivial⟩
        rintro f w2 hf hs
        have BR2 := Aside0.mk (below_step BR.out hs)
        clear hf hs
        (try simp only [RS.sets, List.setIfInBounds_toArray, List.set_cons_zero, List.set_cons_succ])
        go_wp2_with fail
        exact ⟨⟨i + 1, by omega, by go_num, BR2.out⟩, by simp [intOf]; omega⟩
    · have hie : i = n := by omega
      subst hie
      go_upto_region 8 with (fail)
      refine RS.wp_textE [(55, .int .i64 ((i : Nat) : Int)), (56, .slice A1 i c1), (57, .int .i64 ((i : Nat) : Int)), (58, .bool false)] (fun f w => wr = w) (by kernel_rfl) (by kernel_rfl) (fun f hf => ?_) ?_ ?_
      · rfl
      · exact ⟨RS.StepE.pure 55 (by kernel_rfl) rfl (fun w => by kernel_rfl) (fun f w h => h),
          RS.StepE.pure 56 (by kernel_rfl) rfl (fun w => by kernel_rfl) (fun f w h => h),
          RS.StepE.pure 57 (by kernel_rfl) rfl (fun w => by kernel_rfl) (fun f w h => h),
          RS.StepE.load 58 (.bool false) (by kernel_rfl) (by kernel_rfl) rfl (fun f w h => h) (fun f w p1 p2 h => n_lss (a := i) (b := i) (r := false) (decide_eq_false (show ¬ (i < i) from by omega)) rfl (by kernel_rfl) (by kernel_rfl)), trivial⟩
      rintro f wx hf rfl
      clear hf
      (try simp only [RS.sets, List.setIfInBounds_toArray, List.set_cons_zero, List.set_cons_succ])
      go_upto_region 12 with (fail)
      have HS1 := Aside0.mk (show 2 ≤ m from by have h1 := madeB_len ahead l; rw [HM.out] at h1; omega)
      have NR := Aside0.mk (heap_below BR.out N9.out)
      refine RS.wp_choice (C := Value) (by kernel_rfl) (fun c => [(128, Value.tuple #[c, .int .i64 33]), (121, Value.tuple #[c, .int .i64 33]), (129, c), (12, c)] ++ [(122, Value.slice (some ⟨gb, 0, none⟩) m capb), (123, .slice (some ⟨gb, 0, none⟩) m capb), (124, .int .i64 (m : Int)), (125, .int .i64 ((m - 1 : Nat) : Int)), (126, .slice (some ⟨gb, 0, none⟩) (m - 1) capb), (127, .agg #[.int .u64 0, .int .u64 0, .int .u64 0, .slice none 0 0, .slice As 3 c3]), (130, .int .i64 33), (13, .int .i64 33)])
        (fun f c wq => Below wr.heap.size wr wq) (by kernel_rfl) (fun c => by kernel_rfl) undef (fun f hk => ?_) ?_ ?_
      · exact bY_ (Below.refl _ _)
      · exact ⟨RS.StepC.of (fun c => RS.StepE.pure 122 (by kernel_rfl) rfl (fun w => by kernel_rfl) (fun f w h => h)),
        RS.StepC.of (fun c => RS.StepE.pure 123 (by kernel_rfl) rfl (fun w => by kernel_rfl) (fun f w h => h)),
        RS.StepC.of (fun c => RS.StepE.load 124 (.int .i64 (m : Int)) (by kernel_rfl) (by kernel_rfl) rfl (fun f w h => h) (fun f wq p1 p2 h => by kernel_rfl)),
        RS.StepC.of (fun c => RS.StepE.load 125 (.int .i64 ((m - 1 : Nat) : Int)) (by kernel_rfl) (by kernel_rfl) rfl (fun f w h => h) (fun f wq p1 p2 h => n_sub (a := m) (b := 1) (by omega) (by omega) rfl (by kernel_rfl) (by kernel_rfl))),
        RS.StepC.of (fun c => RS.StepE.load 126 (.slice (some ⟨gb, 0, none⟩) (m - 1) capb) (by kernel_rfl) (by kernel_rfl) rfl (fun f w h => h) (fun f wq p1 p2 h => run_slice_to rfl (by kernel_rfl) (by kernel_rfl) (slice_to ⟨gb, 0, none⟩ m capb (m - 1) (by omega) (by have := HO.out.cap_le; rw [HM.out] at this; exact this) wq))),
        RS.StepC.of (fun c => RS.StepE.load 127 (.agg #[.int .u64 0, .int .u64 0, .int .u64 0, .slice none 0 0, .slice As 3 c3]) (by kernel_rfl) (by kernel_rfl) rfl (fun f w h => h) (fun f wq p1 p2 h => load_row (g := g8) (heap_below h NR.out) hu30.out rfl (by kernel_rfl) rfl (by kernel_rfl))),
        RS.StepC.chooseCall 10 (fun c => #[.slice (some ⟨gb, 0, none⟩) (m - 1) capb, .agg #[.int .u64 0, .int .u64 0, .int .u64 0, .slice none 0 0, .slice As 3 c3]]) (fun c => by kernel_rfl) (fun c w => by kernel_rfl) (fun f c wq h0 p1 p2 h => by
          have h0 : f 6 = false := h0
          have hm_ : Below wm.heap.size wm wq := B9.out.trans ((below_step BR.out h).mono B9.out.size)
          have hln : ((madeB ahead l).take ((madeB ahead l).length - 1)).length = m - 1 := by rw [List.length_take, HM.out]; omega
          rw [← hln]
          refine (read_calls (some ⟨gb, 0, none⟩) capb ((madeB ahead l).take ((madeB ahead l).length - 1)) 0 0 0 none 0 0 As c3 3 (secsM ahead l) wq (((HO.out.take _).met hm_).C) (by have := HO.out.cap_le; rw [hln]; rw [HM.out] at this; omega) (by rw [hln]; omega) ((BB_made _ HOK.out).take _) (.inl (by rw [hln]; have := HS1.out; omega)) (Kd.C_below HCS.out hm_) rfl (by decide) (secs_made ha H60.out HOK.out)).mono ?_
          rintro e w' ⟨v', rfl, hr⟩
          rw [readN_cut HOK.out H60.out] at hr ⊢
          refine ⟨_, v', rfl, fun d hd => by cases hd; kernel_rfl, RS.agree_of [(6, 128), (7, 121), (8, 129), (10, 12)] (by kernel_rfl) (by kernel_rfl) (by
            intro x hx
            simp only [List.mem_cons, List.not_mem_nil, or_false] at hx
            rcases hx with rfl | rfl | rfl | rfl
            · exact h0
            · exact p2 7 (by kernel_rfl) (by decide)
            · exact p2 8 (by kernel_rfl) (by decide)
            · exact p2 10 (by kernel_rfl) (by decide)) (by kernel_rfl), h.trans (hr.2.mono h.size)⟩),
        RS.StepC.of (fun c => RS.StepE.pure 121 (by kernel_rfl) rfl (fun w => by kernel_rfl) (fun f w h => h)),
        RS.StepC.of (fun c => RS.StepE.pure 129 (by kernel_rfl) rfl (fun w => by kernel_rfl) (fun f w h => h)),
        RS.StepC.of (fun c => RS.StepE.pure 130 (by kernel_rfl) rfl (fun w => by kernel_rfl) (fun f w h => h)),
        RS.StepC.of (fun c => RS.StepE.pure 12 (by kernel_rfl) rfl (fun w => by kernel_rfl) (fun f w h => h)),
        RS.StepC.of (fun c => RS.StepE.pure 13 (by kernel_rfl) rfl (fun w => by kernel_rfl) (fun f w h => h)), trivial⟩
      rintro f v12 w2 hk hs
      have B2 := Aside0.mk (below_step BR.out hs)
      clear hs hk
      (try simp only [List.cons_append, List.nil_append, RS.sets, List.setIfInBounds_toArray, List.set_cons_zero, List.set_cons_succ])
      go_upto_region 13 with (fail)
      refine wp_region_lit ?_
      refine RS.t1 131 rfl (by kernel_rfl) (.int .i64 33) (by kernel_rfl) ?_
      (try simp only [Act.put, List.setIfInBounds_toArray, List.set_cons_zero, List.set_cons_succ])
      refine RS.t1 132 rfl (by kernel_rfl) (.bool true) (by kernel_rfl) ?_
      (try simp only [Act.put, List.setIfInBounds_toArray, List.set_cons_zero, List.set_cons_succ])
      refine RS.t1 133 rfl (by kernel_rfl) (.bool true) (by kernel_rfl) ?_
      (try simp only [Act.put, List.setIfInBounds_toArray, List.set_cons_zero, List.set_cons_succ])
      refine RS.tC 134 rfl (by kernel_rfl) (show _ = Result.ok (Next.enter 8 #[]) _ from by kernel_rfl) ?_
      refine (wakes_calls w2).mono ?_
      rintro e w26_ ⟨rfl, hb_⟩
      have B27_ := Aside0.mk (below_step B2.out hb_)
      clear hb_ B2
      refine ⟨_, rfl, ?_⟩
      (try simp only [Act.put, List.setIfInBounds_toArray, List.set_cons_zero, List.set_cons_succ])
      refine RS.t1 135 rfl (by kernel_rfl) (.bool true) (by kernel_rfl) ?_
      (try simp only [Act.put, List.setIfInBounds_toArray, List.set_cons_zero, List.set_cons_succ])
      refine RS.t1 6 rfl (by kernel_rfl) (.bool true) (by kernel_rfl) ?_
      (try simp only [Act.put, List.setIfInBounds_toArray, List.set_cons_zero, List.set_cons_succ])
      go_wp2_with fail
      go_ret
      exact ⟨rfl, below_step HBM.out (B9.out.trans (B27_.out.mono B9.out.size))⟩
end Go.Proofs.Ytgdhciilobnelaa.B
