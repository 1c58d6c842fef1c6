/- The law's check at constants. What the printed texts are given: contracts of cpu.Cond, cpu.Packed, cpu.Unpacked, and of the law's check at constants. A region that draws its order, all of whose operations tell settled values: whatever order comes, the frame behind is the same. Arrays of bytes compared with themselves, parts of a CPU read, bits of words. Addresses as sums; parts of an operand read. -/
import Derived.Test.YtpmclnlgipphmaaDoorAq11
import Derived.Test.YtpmclnlgipphmaaDoorAq5
import Derived.Orders
import Derived.Tactics
import Derived.Deep.MidRow
import Derived.Test.YtpmclnlgipphmaaDoorAq8
namespace Go.Proofs.YtpmclnlgipphmaaDoor.B
open Go.RowKit Go.Proofs.YtpmclnlgipphmaaDoorW.PrintWords Go.Proofs.YtpmclnlgipphmaaDoorW.PrintMore Go.RF
set_option linter.unusedVariables false
set_option linter.unusedSimpArgs false
attribute [local go_sem] Oper.semAt_some
theorem Z29_one : Z29.all (·.oneCell') = true := by kernel_rfl
def C1 : Array Value := Z29.setIfInBounds 3 (.int .u64 1099511627853)
theorem C1_size : C1.size = 278 := by decide +kernel
theorem C1_one : C1.all (·.oneCell') = true := all_set Z29_one 3 rfl
theorem C1_3 : C1[3]? = some (.int .u64 1099511627853) := by kernel_rfl
def D1 : Array Value := C1.setIfInBounds 3 (.int .u64 5)
def E1 : Array Value := C1.setIfInBounds 3 (.int .u64 1099511628031)
theorem D1_3 : D1[3]? = some (.int .u64 5) := by kernel_rfl
theorem E1_3 : E1[3]? = some (.int .u64 1099511628031) := by kernel_rfl
theorem set_d (w : World) : Calls Tryd.prog 7 #[.agg C1, .int .i64 3, .int .i64 4, .int .u64 34359738373] w fun e w' => e = .returned (.agg D1) ∧ Below w.heap.size w w' := by
  have h := set_calls C1 3 4 1099511627853 4294967295 34359738373 3 w C1_size C1_one (by decide +kernel) (by decide) C1_3 (by decide +kernel)
  have e : Go.bits .or .u64 (keepF 4 1099511627853 4294967295) (Go.bits .and .u64 34359738373 4294967295) = 5 := by decide +kernel
  rw [e] at h
  exact h
theorem set_e (w : World) : Calls Tryd.prog 7 #[.agg C1, .int .i64 3, .int .i64 1, .int .u64 511] w fun e w' => e = .returned (.agg E1) ∧ Below w.heap.size w w' := by
  have h := set_calls C1 3 1 1099511627853 255 511 3 w C1_size C1_one (by decide +kernel) (by decide) C1_3 (by decide +kernel)
  have e : Go.bits .or .u64 (keepF 1 1099511627853 255) (Go.bits .and .u64 511 255) = 1099511628031 := by decide +kernel
  rw [e] at h
  exact h
theorem get_c (w : World) : Calls Tryd.prog 8 #[.agg C1, .int .i64 3, .int .i64 1] w fun e w' => e = .returned (.int .u64 77) ∧ Below w.heap.size w w' := by
  have h := get_calls C1 3 1 1099511627853 255 3 w (by decide +kernel) (by decide) C1_3 (by decide +kernel)
  have e : Go.bits .and .u64 1099511627853 255 = 77 := by decide +kernel
  rw [e] at h
  exact h
theorem addr_c (w : World) : Calls Tryd.prog 9 #[.agg C1, .agg #[.int .u8 2, .int .i64 0, .int .i64 3, .int .i64 (-1), .int .i64 1, .int .i64 (-7), .bool false, .int .i64 0], .int .u64 0] w fun e w' => e = .returned (.tuple #[.int .u64 1099511627846, .int .i64 0]) ∧ Below w.heap.size w w' := by
  have h := address_ok C1 0 3 (-1) 1 (-7) 0 0 1099511627853 0 false w C1_size (by decide +kernel) (by decide) (by decide) (fun h => absurd h (by decide)) (fun _ => C1_3) (fun h => absurd h (by decide))
  have e : sumL (partL 3 (-1) 1 (-7) 0 1099511627853 0 false) = 1099511627846 := by decide +kernel
  rw [e] at h
  exact h
theorem addr_r (w : World) : Calls Tryd.prog 9 #[.agg C1, .agg #[.int .u8 1, .int .i64 3, .int .i64 (-1), .int .i64 (-1), .int .i64 0, .int .i64 0, .bool false, .int .i64 0], .int .u64 0] w fun e w' => e = .returned (.tuple #[.int .u64 0, .int .i64 2]) ∧ Below w.heap.size w w' :=
  address_kind C1 1 3 (-1) (-1) 0 0 0 0 false w (by decide)
theorem mem_c (w : World) : Calls Tryd.prog 15 #[.int .i64 3, .int .i64 (-7)] w fun e w' => e = .returned (.agg #[.int .u8 2, .int .i64 0, .int .i64 3, .int .i64 (-1), .int .i64 1, .int .i64 (-7), .bool false, .int .i64 0]) ∧ Below w.heap.size w w' :=
  sundialref08_Mem.calls 3 (-7) _ _ _ _ _ _ _ _ w (by kernel_rfl)
theorem reg_c (w : World) : Calls Tryd.prog 16 #[.int .i64 3] w fun e w' => e = .returned (.agg #[.int .u8 1, .int .i64 3, .int .i64 (-1), .int .i64 (-1), .int .i64 0, .int .i64 0, .bool false, .int .i64 0]) ∧ Below w.heap.size w w' :=
  sundialref08_Reg.calls 3 _ _ _ _ _ _ _ _ w (by kernel_rfl)
theorem cond_a (w : World) (hT : Tab w) : Calls Tryd.prog 12 #[.agg #[.bool false, .bool false, .bool true, .bool false, .bool false], .int .u8 12] w fun e w' => e = .returned (.bool true) ∧ Below w.heap.size w w' := cond_calls false false true false false 12 (by decide) (by decide) w hT
theorem cond_b (w : World) (hT : Tab w) : Calls Tryd.prog 12 #[.agg #[.bool false, .bool true, .bool false, .bool false, .bool false], .int .u8 5] w fun e w' => e = .returned (.bool false) ∧ Below w.heap.size w w' := cond_calls false true false false false 5 (by decide) (by decide) w hT
theorem pack_c (w : World) : Calls Tryd.prog 14 #[.agg #[.bool true, .bool false, .bool false, .bool true, .bool false]] w fun e w' => e = .returned (.int .u8 9) ∧ Below w.heap.size w w' := by
  have h := packed_calls true false false true false w
  have e : packL true false false true false bitsL = 9 := by decide +kernel
  rw [e] at h
  exact h
theorem info29 : (Tryd.prog.info? 29).map (·.size) = some C1.size := by kernel_rfl
theorem infoD : (Tryd.prog.info? 29).map (·.size) = some D1.size := by kernel_rfl
theorem infoE : (Tryd.prog.info? 29).map (·.size) = some E1.size := by kernel_rfl
theorem D1_one : D1.all (·.oneCell') = true := all_set C1_one 3 rfl
theorem E1_one : E1.all (·.oneCell') = true := all_set C1_one 3 rfl
theorem ZD : Z29.size = D1.size := by kernel_rfl
theorem ZE : Z29.size = E1.size := by kernel_rfl
theorem alloc_run (W : World) (o : Oper) (a : Act) (ho : o.op = .alloc 29) : (execOp a.eval o).run Tryd.prog W = .ok (.value (.pointer (some ⟨W.heap.size, 0, none⟩))) (W.alloc (.cells Z29 29 (0, 0))) := by
  unfold execOp
  rw [ho]
  simp only [Sem.run_bind, run_alloc29, Result.andThen_ok, Sem.run_pure]
theorem load_run (V : World) (o : Oper) (a : Act) (ho : o.op = .load 29 (.tmp 1)) (g : Nat) (hx : a.eval (.tmp 1) = .pointer (some ⟨g, 0, none⟩)) (hg : V.heap[g]? = some (.cells C1 29 (0, 0))) : (execOp a.eval o).run Tryd.prog V = .ok (.value (.agg C1)) V := by
  unfold execOp
  simp only [ho, hx, Instr.loadAt, Instr.sureAddr, Sem.run_bind, Sem.run_pure, Result.andThen_ok, run_loadVar_row V g 29 29 C1 (0, 0) _ hg Tryd.underlying29 rfl info29]
set_option maxHeartbeats 8000000 in
set_option maxRecDepth 100000 in
theorem wakes_calls (w : World) (hT : Tab w) : Calls Tryd.prog 6 #[] w fun e w' => e = .returned (.bool true) ∧ Below w.heap.size w w' := by
  have hu29 := Tryd.underlying29
  have HT := Aside0.mk hT
  clear hT
  go_enter Tryd.func6, Tryd.ntmps6
  go_upto_region 2 with (first | ((with_reducible refine gate_dst (N := 1) rfl ?_); refine box_event rfl (N := 1) rfl (cs := Z29) (t := 29) (alloc_run _ _ _ rfl) ?_; intro g1 hg1 w1 hbox1 hb1))
  (try simp only [Act.put, List.setIfInBounds_toArray, List.set_cons_zero, List.set_cons_succ])
  have B1 := Aside0.mk hbox1
  have HB1 := Aside0.mk hb1
  have HG1 := Aside0.mk hg1
  have q3 : w1.cell? ⟨g1, 3, none⟩ = some (.int .u64 0) := by rw [bC_ hbox1]; kernel_rfl
  have z3 : w1.frozen? ⟨g1, 3, none⟩ = false := bF_ hbox1 3
  clear hbox1 hb1 hg1
  go_upto_region 3 with (fail)
  have B2 : Aside0 ((w1.setCell ⟨g1, 3, none⟩ (.int .u64 1099511627853)).heap[g1]? = some (.cells C1 29 (0, 0))) := ⟨blk_set1 B1.out 3 _⟩
  have HB2 : Aside0 (Below w.heap.size w (w1.setCell ⟨g1, 3, none⟩ (.int .u64 1099511627853))) := ⟨HB1.out.trans (((Keeps.refl (fun k => k = g1) w1).setCell _ _ rfl).below HB1.out.size (fun k hk h => by have := HG1.out; omega))⟩
  clear B1 HB1 q3 z3
  generalize w1.setCell ⟨g1, 3, none⟩ (.int .u64 1099511627853) = w2 at *
  go_upto_region 4 with (first
    | (with_reducible refine wpList_load_row rfl 29 (.tmp 1) rfl g1 rfl 29 C1 (0, 0) _ B2.out hu29 rfl info29 ?_)
    | (go_at_call 7; refine (set_d _).mono ?_; rintro e w3 ⟨rfl, hb3⟩; have B3 := Aside0.mk (blk_below B2.out hb3); have HB3 := Aside0.mk (HB2.out.trans (hb3.mono HB2.out.size)); clear hb3)
    | ((with_reducible refine gate_dst (N := 2) rfl ?_); refine box_event rfl (N := 2) rfl (cs := Z29) (t := 29) (alloc_run _ _ _ rfl) ?_; intro g2 hg2 w4 hbox2 hb4; have B4 := Aside0.mk (blk_below B3.out hb4); have D4 := Aside0.mk hbox2; have HB4 := Aside0.mk (HB3.out.trans (hb4.mono HB3.out.size)); have HG2 := Aside0.mk (And.intro (show w.heap.size ≤ g2 by rw [hg2]; exact HB3.out.size) (show g1 ≠ g2 by have := blk_lt B3.out; omega)); clear hbox2 hb4 hg2)
    | (with_reducible refine wpList_store_row rfl 29 (.tmp 2) (.tmp 11) rfl g2 D1 rfl rfl 29 Z29 D4.out infoD ZD D1_one ?_))
  (try simp only [Act.put, List.setIfInBounds_toArray, List.set_cons_zero, List.set_cons_succ])
  have B5 : Aside0 ((w4.setRow g2 D1).heap[g1]? = some (.cells C1 29 (0, 0))) := ⟨(setRow_other w4 g2 g1 D1 HG2.out.2).trans B4.out⟩
  have D5 : Aside0 ((w4.setRow g2 D1).heap[g2]? = some (.cells D1 29 (0, 0))) := ⟨setRow_heap w4 g2 Z29 D1 29 (0, 0) D4.out⟩
  have HB5 : Aside0 (Below w.heap.size w (w4.setRow g2 D1)) := ⟨HB4.out.trans ((keeps_setRow w4 g2 D1).below HB4.out.size (fun k hk h => by have := HG2.out.1; omega))⟩
  clear B2 HB2 B3 HB3 B4 D4 HB4
  generalize w4.setRow g2 D1 = w5 at *
  go_upto_region 5 with (first
    | (with_reducible refine wpList_load_row rfl 29 (.tmp 1) rfl g1 rfl 29 C1 (0, 0) _ B5.out hu29 rfl info29 ?_)
    | (go_at_call 7; refine (set_e _).mono ?_; rintro e w6 ⟨rfl, hb6⟩; have B6 := Aside0.mk (blk_below B5.out hb6); have D6 := Aside0.mk (blk_below D5.out hb6); have HB6 := Aside0.mk (HB5.out.trans (hb6.mono HB5.out.size)); clear hb6)
    | ((with_reducible refine gate_dst (N := 3) rfl ?_); refine box_event rfl (N := 3) rfl (cs := Z29) (t := 29) (alloc_run _ _ _ rfl) ?_; intro g3 hg3 w7 hbox3 hb7; have B7 := Aside0.mk (blk_below B6.out hb7); have D7 := Aside0.mk (blk_below D6.out hb7); have E7 := Aside0.mk hbox3; have HB7 := Aside0.mk (HB6.out.trans (hb7.mono HB6.out.size)); have HG3 := Aside0.mk (And.intro (show w.heap.size ≤ g3 by rw [hg3]; exact HB6.out.size) (And.intro (show g1 ≠ g3 by have := blk_lt B6.out; omega) (show g2 ≠ g3 by have := blk_lt D6.out; omega))); clear hbox3 hb7 hg3)
    | (with_reducible refine wpList_store_row rfl 29 (.tmp 3) (.tmp 13) rfl g3 E1 rfl rfl 29 Z29 E7.out infoE ZE E1_one ?_))
  (try simp only [Act.put, List.setIfInBounds_toArray, List.set_cons_zero, List.set_cons_succ])
  have B8 : Aside0 ((w7.setRow g3 E1).heap[g1]? = some (.cells C1 29 (0, 0))) := ⟨(setRow_other w7 g3 g1 E1 HG3.out.2.1).trans B7.out⟩
  have D8 : Aside0 ((w7.setRow g3 E1).heap[g2]? = some (.cells D1 29 (0, 0))) := ⟨(setRow_other w7 g3 g2 E1 HG3.out.2.2).trans D7.out⟩
  have E8 : Aside0 ((w7.setRow g3 E1).heap[g3]? = some (.cells E1 29 (0, 0))) := ⟨setRow_heap w7 g3 Z29 E1 29 (0, 0) E7.out⟩
  have HB8 : Aside0 (Below w.heap.size w (w7.setRow g3 E1)) := ⟨HB7.out.trans ((keeps_setRow w7 g3 E1).below HB7.out.size (fun k hk h => by have := HG3.out.1; omega))⟩
  clear B5 D5 HB5 B6 D6 HB6 B7 D7 E7 HB7
  generalize w7.setRow g3 E1 = w8 at *
  refine (wpIn_wide (n := 0)).1 ?_
  refine AnyH.start (S := fun V => V.heap[g1]? = some (.cells C1 29 (0, 0))) (by kernel_rfl) rfl ?_
  show AnyH _ _ _ _ _ _ _ 8 _ _ _
  have hs0 : w8.drew.heap[g1]? = some (.cells C1 29 (0, 0)) := B8.out
  refine AnyH.take (fuel := 7) (i := 0) (v := .agg C1) rfl rfl (by kernel_rfl) (by kernel_rfl) (by kernel_rfl) (fun _ _ _ h => h) ⟨.inl ⟨by kernel_rfl, fun V hV => load_run V _ _ rfl g1 rfl hV⟩, fun _ => rfl⟩ hs0 ?_
  (try simp only [Act.put, List.setIfInBounds_toArray, List.set_cons_zero, List.set_cons_succ])
  refine AnyH.one (fuel := 6) (i := 1) rfl (by kernel_rfl) (by kernel_rfl) ?_
  refine ⟨fun _ _ => trivial, ?_⟩
  go_simp
  refine ⟨rfl, callsIn_wide.2 ?_⟩
  refine (mem_c _).mono ?_
  rintro e w9a ⟨rfl, hb⟩
  have B9a := Aside0.mk (blk_below (show w8.drew.heap[g1]? = _ from B8.out) hb)
  have D9a := Aside0.mk (blk_below (show w8.drew.heap[g2]? = _ from D8.out) hb)
  have E9a := Aside0.mk (blk_below (show w8.drew.heap[g3]? = _ from E8.out) hb)
  have HB9a := Aside0.mk ((HB8.out.trans (show Below w.heap.size w8 w8.drew from ⟨rfl, rfl, rfl, Nat.le_refl _, fun _ _ => rfl⟩)).trans (hb.mono (show w.heap.size ≤ w8.drew.heap.size from HB8.out.size)))
  clear hb hs0
  have hs1 := B9a.out
  refine ⟨hs1, ?_⟩
  (try simp only [Act.put, List.setIfInBounds_toArray, List.set_cons_zero, List.set_cons_succ])
  refine AnyH.one (fuel := 5) (i := 2) rfl (by kernel_rfl) (by kernel_rfl) ?_
  refine ⟨fun _ _ => trivial, ?_⟩
  go_simp
  refine ⟨rfl, callsIn_wide.2 ?_⟩
  refine (addr_c _).mono ?_
  rintro e w9 ⟨rfl, hb⟩
  have B9 := Aside0.mk (blk_below B9a.out hb)
  have D9 := Aside0.mk (blk_below D9a.out hb)
  have E9 := Aside0.mk (blk_below E9a.out hb)
  have HB9 := Aside0.mk (HB9a.out.trans (hb.mono HB9a.out.size))
  clear hb hs1
  have hs2 := B9.out
  refine ⟨hs2, ?_⟩
  (try simp only [Act.put, List.setIfInBounds_toArray, List.set_cons_zero, List.set_cons_succ])
  refine AnyH.take (fuel := 4) (i := 3) (v := .tuple #[.int .u64 1099511627846, .int .i64 0]) rfl rfl (by kernel_rfl) (by kernel_rfl) (by kernel_rfl) (fun _ _ _ h => h) ⟨.inl ⟨by kernel_rfl, fun V hV => by go_simp⟩, fun _ => rfl⟩ hs2 ?_
  (try simp only [Act.put, List.setIfInBounds_toArray, List.set_cons_zero, List.set_cons_succ])
  refine AnyH.take (fuel := 3) (i := 4) (v := .int .u64 1099511627846) rfl rfl (by kernel_rfl) (by kernel_rfl) (by kernel_rfl) (fun _ _ _ h => h) ⟨.inl ⟨by kernel_rfl, fun V hV => by go_simp⟩, fun _ => rfl⟩ hs2 ?_
  (try simp only [Act.put, List.setIfInBounds_toArray, List.set_cons_zero, List.set_cons_succ])
  refine AnyH.take (fuel := 2) (i := 5) (v := .int .i64 0) rfl rfl (by kernel_rfl) (by kernel_rfl) (by kernel_rfl) (fun _ _ _ h => h) ⟨.inl ⟨by kernel_rfl, fun V hV => by go_simp⟩, fun _ => rfl⟩ hs2 ?_
  (try simp only [Act.put, List.setIfInBounds_toArray, List.set_cons_zero, List.set_cons_succ])
  refine AnyH.take (fuel := 1) (i := 6) (v := .int .u64 1099511627846) rfl rfl (by kernel_rfl) (by kernel_rfl) (by kernel_rfl) (fun _ _ _ h => h) ⟨.inl ⟨by kernel_rfl, fun V hV => by go_simp⟩, fun _ => rfl⟩ hs2 ?_
  (try simp only [Act.put, List.setIfInBounds_toArray, List.set_cons_zero, List.set_cons_succ])
  refine AnyH.take (fuel := 0) (i := 7) (v := .int .i64 0) rfl rfl (by kernel_rfl) (by kernel_rfl) (by kernel_rfl) (fun _ _ _ h => h) ⟨.inl ⟨by kernel_rfl, fun V hV => by go_simp⟩, fun _ => rfl⟩ hs2 ?_
  (try simp only [Act.put, List.setIfInBounds_toArray, List.set_cons_zero, List.set_cons_succ])
  refine AnyH.done (by kernel_rfl) ?_ _
  clear hs2 B8 B9a D8 D9a E8 E9a HB8 HB9a
  go_upto_region 6 with (fail)
  refine (wpIn_wide (n := 0)).1 ?_
  refine AnyH.start (S := fun V => V.heap[g1]? = some (.cells C1 29 (0, 0))) (by kernel_rfl) rfl ?_
  show AnyH _ _ _ _ _ _ _ 8 _ _ _
  have hs0 : w9.drew.heap[g1]? = some (.cells C1 29 (0, 0)) := B9.out
  refine AnyH.take (fuel := 7) (i := 0) (v := .agg C1) rfl rfl (by kernel_rfl) (by kernel_rfl) (by kernel_rfl) (fun _ _ _ h => h) ⟨.inl ⟨by kernel_rfl, fun V hV => load_run V _ _ rfl g1 rfl hV⟩, fun _ => rfl⟩ hs0 ?_
  (try simp only [Act.put, List.setIfInBounds_toArray, List.set_cons_zero, List.set_cons_succ])
  refine AnyH.one (fuel := 6) (i := 1) rfl (by kernel_rfl) (by kernel_rfl) ?_
  refine ⟨fun _ _ => trivial, ?_⟩
  go_simp
  refine ⟨rfl, callsIn_wide.2 ?_⟩
  refine (reg_c _).mono ?_
  rintro e w10a ⟨rfl, hb⟩
  have B10a := Aside0.mk (blk_below (show w9.drew.heap[g1]? = _ from B9.out) hb)
  have D10a := Aside0.mk (blk_below (show w9.drew.heap[g2]? = _ from D9.out) hb)
  have E10a := Aside0.mk (blk_below (show w9.drew.heap[g3]? = _ from E9.out) hb)
  have HB10a := Aside0.mk ((HB9.out.trans (show Below w.heap.size w9 w9.drew from ⟨rfl, rfl, rfl, Nat.le_refl _, fun _ _ => rfl⟩)).trans (hb.mono (show w.heap.size ≤ w9.drew.heap.size from HB9.out.size)))
  clear hb hs0
  have hs1 := B10a.out
  refine ⟨hs1, ?_⟩
  (try simp only [Act.put, List.setIfInBounds_toArray, List.set_cons_zero, List.set_cons_succ])
  refine AnyH.one (fuel := 5) (i := 2) rfl (by kernel_rfl) (by kernel_rfl) ?_
  refine ⟨fun _ _ => trivial, ?_⟩
  go_simp
  refine ⟨rfl, callsIn_wide.2 ?_⟩
  refine (addr_r _).mono ?_
  rintro e w10 ⟨rfl, hb⟩
  have B10 := Aside0.mk (blk_below B10a.out hb)
  have D10 := Aside0.mk (blk_below D10a.out hb)
  have E10 := Aside0.mk (blk_below E10a.out hb)
  have HB10 := Aside0.mk (HB10a.out.trans (hb.mono HB10a.out.size))
  clear hb hs1
  have hs2 := B10.out
  refine ⟨hs2, ?_⟩
  (try simp only [Act.put, List.setIfInBounds_toArray, List.set_cons_zero, List.set_cons_succ])
  refine AnyH.take (fuel := 4) (i := 3) (v := .tuple #[.int .u64 0, .int .i64 2]) rfl rfl (by kernel_rfl) (by kernel_rfl) (by kernel_rfl) (fun _ _ _ h => h) ⟨.inl ⟨by kernel_rfl, fun V hV => by go_simp⟩, fun _ => rfl⟩ hs2 ?_
  (try simp only [Act.put, List.setIfInBounds_toArray, List.set_cons_zero, List.set_cons_succ])
  refine AnyH.take (fuel := 3) (i := 4) (v := .int .u64 0) rfl rfl (by kernel_rfl) (by kernel_rfl) (by kernel_rfl) (fun _ _ _ h => h) ⟨.inl ⟨by kernel_rfl, fun V hV => by go_simp⟩, fun _ => rfl⟩ hs2 ?_
  (try simp only [Act.put, List.setIfInBounds_toArray, List.set_cons_zero, List.set_cons_succ])
  refine AnyH.take (fuel := 2) (i := 5) (v := .int .i64 2) rfl rfl (by kernel_rfl) (by kernel_rfl) (by kernel_rfl) (fun _ _ _ h => h) ⟨.inl ⟨by kernel_rfl, fun V hV => by go_simp⟩, fun _ => rfl⟩ hs2 ?_
  (try simp only [Act.put, List.setIfInBounds_toArray, List.set_cons_zero, List.set_cons_succ])
  refine AnyH.take (fuel := 1) (i := 6) (v := .int .u64 0) rfl rfl (by kernel_rfl) (by kernel_rfl) (by kernel_rfl) (fun _ _ _ h => h) ⟨.inl ⟨by kernel_rfl, fun V hV => by go_simp⟩, fun _ => rfl⟩ hs2 ?_
  (try simp only [Act.put, List.setIfInBounds_toArray, List.set_cons_zero, List.set_cons_succ])
  refine AnyH.take (fuel := 0) (i := 7) (v := .int .i64 2) rfl rfl (by kernel_rfl) (by kernel_rfl) (by kernel_rfl) (fun _ _ _ h => h) ⟨.inl ⟨by kernel_rfl, fun V hV => by go_simp⟩, fun _ => rfl⟩ hs2 ?_
  (try simp only [Act.put, List.setIfInBounds_toArray, List.set_cons_zero, List.set_cons_succ])
  refine AnyH.done (by kernel_rfl) ?_ _
  clear hs2 B9 B10a D9 D10a E9 E10a HB9 HB10a
  go_upto_region 7 with (fail)
  (try simp only [Act.put, List.setIfInBounds_toArray, List.set_cons_zero, List.set_cons_succ])
  have qd : w10.cell? ⟨g2, 3, none⟩ = some (.int .u64 5) := by rw [bC_ D10.out]; exact D1_3
  have qe : w10.cell? ⟨g3, 3, none⟩ = some (.int .u64 1099511628031) := by rw [bC_ E10.out]; exact E1_3
  go_wp2_with (first
    | (refine gate_guard (by rfl) ?_; dsimp only; with_reducible refine wpList_load_row rfl 29 (.tmp 1) rfl g1 rfl 29 C1 (0, 0) _ B10.out hu29 rfl info29 ?_)
    | (go_at_call 8; refine (get_c _).mono ?_; rintro e w11 ⟨rfl, hb11⟩; have HB11 := Aside0.mk (HB10.out.trans (hb11.mono HB10.out.size)); clear hb11)
    | (go_at_call 12; (with_reducible refine (cond_a _ ?_).mono ?_); exact (HT.out.below HB11.out); rintro e w12 ⟨rfl, hb12⟩; have HB12 := Aside0.mk (HB11.out.trans (hb12.mono HB11.out.size)); clear hb12)
    | (go_at_call 12; (with_reducible refine (cond_b _ ?_).mono ?_); exact (HT.out.below HB12.out); rintro e w13 ⟨rfl, hb13⟩; have HB13 := Aside0.mk (HB12.out.trans (hb13.mono HB12.out.size)); clear hb13)
    | (go_at_call 14; refine (pack_c _).mono ?_; rintro e w14 ⟨rfl, hb14⟩; have HB14 := Aside0.mk (HB13.out.trans (hb14.mono HB13.out.size)); clear hb14))
  go_ret
  exact ⟨rfl, HB14.out⟩
end Go.Proofs.YtpmclnlgipphmaaDoor.B
namespace Go.Proofs.YtpmclnlgipphmaaDoor.B
open Go.RowKit Go.Proofs.YtpmclnlgipphmaaDoorW.PrintWords Go.Proofs.YtpmclnlgipphmaaDoorW.PrintMore Go.RF
set_option linter.unusedVariables false
end Go.Proofs.YtpmclnlgipphmaaDoor.B
namespace Go.RS
set_option linter.unusedVariables false
def Tells (P : Program) (o : Oper) (ρ : Operand → Value) (w : World) (R : Value → World → Prop) : Prop :=
  match (execOp ρ o).run P w with
  | .ok (.value v) w' => R v w'
  | .ok .skip w' => R undef w'
  | .ok (.enter f args) w' => Calls P f args w' fun e w2 => ∃ v, e = .returned v ∧ R v w2
  | _ => False
theorem Tells.wp {P : Program} {o : Oper} {a : Act} {w : World} {R : Value → World → Prop} {K : Act → World → Prop} {Q : Exit → Act → World → Prop}
    (h : Tells P o a.eval w R) (hK : ∀ v w', R v w' → K (a.put o.dst v) w') : o.wp P a w K Q := by
  unfold Oper.wp
  unfold Tells at h
  generalize (execOp a.eval o).run P w = r at h ⊢
  cases r with
  | ok x w' =>
    cases x with
    | value v => exact hK _ _ h
    | skip => exact hK _ _ h
    | enter f args => exact Calls.mono h fun e w2 he => by obtain ⟨v, rfl, hr⟩ := he; exact hK _ _ hr
    | _ => exact h.elim
  | halt x w' => exact h.elim
theorem Array.any_iff_exists' {α : Type} {p : α → Bool} {A : Array α} (h : A.any p = true) : ∃ x, x ∈ A ∧ p x = true := by
  rw [Array.any_eq_true] at h
  obtain ⟨i, hi, hp⟩ := h
  exact ⟨A[i], Array.getElem_mem hi, hp⟩
def depsOk (md : Region.Mode) (ops : Array Oper) : Bool :=
  (List.range ops.size).all fun i =>
    match ops[i]? with
    | none => true
    | some o =>
      o.after.all (fun e => !Region.binds md e || decide (e.on < i)) &&
      (o.looksAt ops).all (fun t => (List.range ops.size).all fun j =>
        match ops[j]? with
        | none => true
        | some p => p.dst != some t || o.after.any (fun e => Region.binds md e && e.on == j)) &&
      (match o.dst with
       | none => true
       | some d => (List.range ops.size).all fun j => j == i || (match ops[j]? with | none => true | some p => p.dst != some d)) &&
      (match o.op with | .select _ _ => false | _ => true)
theorem deps_spec {md : Region.Mode} {ops : Array Oper} (h : depsOk md ops = true) {i : Nat} {o : Oper} (hi : ops[i]? = some o) :
    (∀ e ∈ o.after, Region.binds md e = true → e.on < i) ∧
    (∀ t ∈ o.looksAt ops, ∀ j p, ops[j]? = some p → p.dst = some t → ∃ e ∈ o.after, Region.binds md e = true ∧ e.on = j) ∧
    (∀ d, o.dst = some d → ∀ j p, ops[j]? = some p → p.dst = some d → j = i) ∧ (∀ cs b, o.op ≠ .select cs b) := by
  have hlt : ∀ {j : Nat} {p : Oper}, ops[j]? = some p → j < ops.size := fun hj => (Array.getElem?_eq_some_iff.1 hj).1
  unfold depsOk at h
  have h1 := List.all_eq_true.1 h i (List.mem_range.2 (hlt hi))
  simp only [hi, Bool.and_eq_true] at h1
  obtain ⟨⟨⟨a1, a2⟩, a3⟩, a4⟩ := h1
  refine ⟨fun e he hb => ?_, fun t ht j p hj hd => ?_, fun d hd j p hj hp => ?_, fun cs b e => ?_⟩
  · have := Array.all_eq_true_iff_forall_mem.1 a1 e he
    simpa [hb] using this
  · have := List.all_eq_true.1 (List.all_eq_true.1 a2 t ht) j (List.mem_range.2 (hlt hj))
    simp only [hj, hd, bne_self_eq_false, Bool.false_or] at this
    obtain ⟨e, he, hb⟩ := (Array.any_iff_exists' this)
    simp only [Bool.and_eq_true, beq_iff_eq] at hb
    exact ⟨e, he, hb.1, hb.2⟩
  · simp only [hd] at a3
    have := List.all_eq_true.1 a3 j (List.mem_range.2 (hlt hj))
    simpa [hj, hp] using this
  · rw [e] at a4
    cases a4
def Inv (ops : Array Oper) (T : Array Value) (a0 : Act) (listed : Array Bool) (a : Act) : Prop :=
  a.defers = a0.defers ∧ a.tmps.size = a0.tmps.size ∧
  (∀ i o d, ops[i]? = some o → o.dst = some d → listed.getD i true = true → a.tmps.getD d undef = T.getD d undef) ∧
  (∀ t, (∀ i o, ops[i]? = some o → o.dst = some t → listed.getD i true = false) → a.tmps.getD t undef = a0.tmps.getD t undef)
def StepOK (P : Program) (ops : Array Oper) (T : Array Value) (S : World → Prop) (o : Oper) : Prop :=
  (Region.wanted o (yielded ops T) = true → ∀ w, S w → Tells P o (Act.eval ⟨T, []⟩) w fun u w' => (∀ d, o.dst = some d → T.getD d undef = u) ∧ S w') ∧
  (Region.wanted o (yielded ops T) = false → ∀ d, o.dst = some d → T.getD d undef = undef)
def AllOK (P : Program) (ops : Array Oper) (T : Array Value) (S : World → Prop) : List Oper → Prop
  | [] => True
  | o :: r => StepOK P ops T S o ∧ AllOK P ops T S r
theorem AllOK.mem {P : Program} {ops : Array Oper} {T : Array Value} {S : World → Prop} : ∀ {l : List Oper}, AllOK P ops T S l → ∀ o ∈ l, StepOK P ops T S o
  | [], _, o, ho => by cases ho
  | p :: r, h, o, ho => by
    rcases List.mem_cons.1 ho with rfl | ho
    · exact h.1
    · exact AllOK.mem h.2 o ho
theorem getD_set {A : Array Value} {d t : Nat} {v : Value} : (A.setIfInBounds d v).getD t undef = if d = t ∧ d < A.size then v else A.getD t undef := by
  simp only [Array.getD_eq_getD_getElem?, Array.getElem?_setIfInBounds]
  by_cases e : d = t
  · subst e
    by_cases h : d < A.size
    · simp [h]
    · simp [h]
  · simp [e]
theorem listed_set {A : Array Bool} {i j : Nat} (hi : A.getD i true = false) : (A.setIfInBounds i true).getD j true = (if i = j then true else A.getD j true) := by
  simp only [Array.getD_eq_getD_getElem?, Array.getElem?_setIfInBounds] at hi ⊢
  by_cases e : i = j
  · subst e
    by_cases h : i < A.size
    · simp [h]
    · simp [h]
  · simp [e]
theorem looks_tmp {ops : Array Oper} {o : Oper} {t : Tmp} (h : Operand.tmp t ∈ o.op.operands) : t ∈ o.looksAt ops := List.mem_append_left _ (List.mem_filterMap.2 ⟨.tmp t, by simpa using h, rfl⟩)
theorem looks_guard {ops : Array Oper} {o : Oper} {g : Nat} {b : Bool} {t : Tmp} (h : o.guard = some (g, b)) (ht : (ops[g]?).bind (·.dst) = some t) : t ∈ o.looksAt ops := by
  refine List.mem_append_right _ ?_
  rw [h]
  simp [ht]
theorem step_inv {P : Program} {md : Region.Mode} {ops : Array Oper} {Q : Exit → Act → World → Prop} {T : Array Value} {S : World → Prop} {a0 : Act}
    (hd : depsOk md ops = true) (hsz : T.size = a0.tmps.size) (hT : ∀ t, (∀ (i : Nat) (o : Oper), ops[i]? = some o → o.dst ≠ some t) → T.getD t undef = a0.tmps.getD t undef)
    (hstep : AllOK P ops T S ops.toList) {listed : Array Bool} (hls : listed.size = ops.size) {i : Nat} {o : Oper} (ho : ops[i]? = some o) (hun : listed.getD i true = false)
    (hdep : ∀ e ∈ o.after, Region.binds md e = true → listed.getD e.on false = true) {a : Act} {w : World} (hI : Inv ops T a0 listed a) (hS : S w) {K : Act → World → Prop}
    (hK : ∀ u w', Inv ops T a0 (listed.setIfInBounds i true) (a.put o.dst u) → S w' → K (a.put o.dst u) w') :
    if Region.wanted o (yielded ops a.tmps) then o.wp P a w K Q else K (a.put o.dst undef) w := by
  have hlt := (Array.getElem?_eq_some_iff.1 ho).1
  obtain ⟨d1, d2, d3, d4⟩ := deps_spec hd ho
  have hI' := hI
  obtain ⟨h1, h2, h3, h4⟩ := hI'
  have hsame : ∀ t ∈ o.looksAt ops, a.tmps.getD t undef = T.getD t undef := by
    intro t ht
    by_cases hw : ∃ (j : Nat) (p : Oper), ops[j]? = some p ∧ p.dst = some t
    · obtain ⟨j, p, hj, hp⟩ := hw
      obtain ⟨e, he, hb, rfl⟩ := d2 t ht j p hj hp
      refine h3 e.on p t hj hp ?_
      have := hdep e he hb
      rw [Array.getD_eq_getD_getElem?] at this ⊢
      rw [Array.getElem?_eq_getElem (by have := d1 e he hb; omega)] at this ⊢
      simpa using this
    · rw [hT t (fun j p hj hp => hw ⟨j, p, hj, hp⟩)]
      exact h4 t (fun j p hj hp => absurd ⟨j, p, hj, hp⟩ hw)
  have hev : ∀ x ∈ o.op.operands, a.eval x = Act.eval ⟨T, []⟩ x := by
    intro x hx
    cases x with
    | tmp t => exact hsame t (looks_tmp hx)
    | _ => rfl
  have hwant : Region.wanted o (yielded ops a.tmps) = Region.wanted o (yielded ops T) := by
    unfold Region.wanted
    rcases hg : o.guard with _ | ⟨g, b⟩
    · rfl
    · simp only []
      have : yielded ops a.tmps g = yielded ops T g := by
        unfold yielded
        rcases ht : (ops[g]?).bind (·.dst) with _ | t
        · rfl
        · simp only [Option.bind_some]
          have hs := hsame t (looks_guard hg ht)
          rw [Array.getD_eq_getD_getElem?, Array.getD_eq_getD_getElem?] at hs
          by_cases hlt : t < T.size
          · have hlt' : t < a.tmps.size := by rw [h2, ← hsz]; exact hlt
            have e1 : a.tmps[t]? = some a.tmps[t] := Array.getElem?_eq_getElem hlt'
            have e2 : T[t]? = some T[t] := Array.getElem?_eq_getElem hlt
            rw [e1, e2] at hs ⊢
            simp only [Option.getD_some] at hs
            rw [hs]
          · have e1 : a.tmps[t]? = none := Array.getElem?_eq_none (by rw [h2, ← hsz]; exact Nat.le_of_not_lt hlt)
            have e2 : T[t]? = none := Array.getElem?_eq_none (Nat.le_of_not_lt hlt)
            rw [e1, e2]
      rw [this]
  have hex : execOp a.eval o = execOp (Act.eval ⟨T, []⟩) o := execOp_congr o d4 hev
  have hput : ∀ u w', (∀ d, o.dst = some d → T.getD d undef = u) → S w' → K (a.put o.dst u) w' := by
    intro u w' hu' hS'
    refine hK u w' ?_ hS'
    rcases hdst : o.dst with _ | d
    · refine ⟨h1, h2, fun j p t hj hp hl => ?_, fun t ht => h4 t fun j p hj hp => ?_⟩
      · rw [listed_set hun] at hl
        by_cases e : i = j
        · subst e
          rw [ho] at hj
          cases hj
          rw [hdst] at hp
          cases hp
        · rw [if_neg e] at hl
          exact h3 j p t hj hp hl
      · have := ht j p hj hp
        rw [listed_set hun] at this
        by_cases e : i = j
        · rw [if_pos e] at this; cases this
        · rwa [if_neg e] at this
    · have hv := hu' d hdst
      refine ⟨h1, by simp [Act.put, h2], fun j p t hj hp hl => ?_, fun t ht => ?_⟩
      · simp only [Act.put]
        rw [getD_set]
        rw [listed_set hun] at hl
        by_cases e : i = j
        · subst e
          rw [ho] at hj
          cases hj
          rw [hdst] at hp
          cases hp
          by_cases hlt2 : d < a.tmps.size
          · rw [if_pos ⟨rfl, hlt2⟩, hv]
          · rw [if_neg (fun h => hlt2 h.2)]
            have hge : a.tmps.size ≤ d := Nat.le_of_not_lt (fun h => hlt2 h)
            have e1 : a.tmps[d]? = none := Array.getElem?_eq_none hge
            have e2 : T[d]? = none := Array.getElem?_eq_none (by rw [hsz, ← h2]; exact hge)
            rw [Array.getD_eq_getD_getElem?, Array.getD_eq_getD_getElem?, e1, e2]
        · rw [if_neg e] at hl
          have hne : ¬ (d = t ∧ d < a.tmps.size) := fun h => e (d3 d hdst j p hj (by rw [hp, h.1])).symm
          rw [if_neg hne]
          exact h3 j p t hj hp hl
      · simp only [Act.put]
        rw [getD_set]
        have hne : ¬ (d = t ∧ d < a.tmps.size) := fun h => by
          have := ht i o ho (by rw [hdst, h.1])
          rw [listed_set hun, if_pos rfl] at this
          cases this
        rw [if_neg hne]
        refine h4 t fun j p hj hp => ?_
        have := ht j p hj hp
        rw [listed_set hun] at this
        by_cases e : i = j
        · rw [if_pos e] at this; cases this
        · rwa [if_neg e] at this
  obtain ⟨s1, s2⟩ := hstep.mem o (by rw [Array.mem_toList_iff]; exact Array.mem_of_getElem? ho)
  by_cases hw : Region.wanted o (yielded ops a.tmps) = true
  · rw [if_pos hw]
    refine Tells.wp (R := fun u w' => (∀ d, o.dst = some d → T.getD d undef = u) ∧ S w') ?_ fun u w' hr => hput u w' hr.1 hr.2
    unfold Tells
    rw [hex]
    exact s1 (by rw [← hwant]; exact hw) w hS
  · rw [if_neg hw]
    exact hput undef w (s2 (by rw [← hwant]; simpa using hw)) hS
theorem inv_end {ops : Array Oper} {T : Array Value} {a0 : Act} (hsz : T.size = a0.tmps.size) (hT : ∀ t, (∀ (i : Nat) (o : Oper), ops[i]? = some o → o.dst ≠ some t) → T.getD t undef = a0.tmps.getD t undef)
    {listed : Array Bool} {a : Act} (hI : Inv ops T a0 listed a) (hall : ∀ i, i < ops.size → listed.getD i true = true) : a = { a0 with tmps := T } := by
  obtain ⟨h1, h2, h3, h4⟩ := hI
  have ha : a = { a0 with tmps := T } := by
    have ht : a.tmps = T := by
      refine Array.ext (by omega) fun t ht1 ht2 => ?_
      have : a.tmps.getD t undef = T.getD t undef := by
        by_cases hw : ∃ (i : Nat) (o : Oper), ops[i]? = some o ∧ o.dst = some t
        · obtain ⟨i, o, hi, hdst⟩ := hw
          exact h3 i o t hi hdst (hall i (Array.getElem?_eq_some_iff.1 hi).1)
        · rw [hT t (fun i o hi hdst => hw ⟨i, o, hi, hdst⟩)]
          exact h4 t (fun i o hi hdst => absurd ⟨i, o, hi, hdst⟩ hw)
      rw [Array.getD_eq_getD_getElem?, Array.getD_eq_getD_getElem?, Array.getElem?_eq_getElem ht1, Array.getElem?_eq_getElem ht2] at this
      simpa using this
    cases a
    simp only at h1 ht
    subst h1 ht
    rfl
  exact ha
def lk (n k : Nat) : Array Bool := (Array.range n).map fun i => decide (i < k)
theorem lk_get (n k i : Nat) (b : Bool) (h : i < n) : (lk n k).getD i b = decide (i < k) := by
  unfold lk
  rw [Array.getD_eq_getD_getElem?, Array.getElem?_map, Array.getElem?_range]
  simp [h]
theorem lk_set (n k : Nat) (h : k < n) : (lk n k).setIfInBounds k true = lk n (k + 1) := by
  apply Array.ext
  · simp [lk]
  · intro j h1 h2
    have hj : j < n := by simpa [lk] using h2
    have e1 := Array.getElem?_eq_getElem h1
    have e2 := Array.getElem?_eq_getElem h2
    rw [Array.getElem?_setIfInBounds] at e1
    have e3 : (lk n (k + 1))[j]? = some (decide (j < k + 1)) := by unfold lk; rw [Array.getElem?_map, Array.getElem?_range]; simp [hj]
    have e4 : (lk n k)[j]? = some (decide (j < k)) := by unfold lk; rw [Array.getElem?_map, Array.getElem?_range]; simp [hj]
    rw [e3] at e2
    have f2 := Option.some.inj e2
    by_cases e : k = j
    · subst e
      rw [if_pos rfl, if_pos (by simpa [lk] using hj)] at e1
      rw [← Option.some.inj e1, ← f2]
      simp
    · rw [if_neg e, e4] at e1
      rw [← Option.some.inj e1, ← f2, Bool.eq_iff_iff]
      simp only [decide_eq_true_eq]
      omega
theorem seq_settled {P : Program} {l : List Oper} {Q : Exit → Act → World → Prop} {T : Array Value} {S : World → Prop} {a0 : Act}
    (hd : depsOk .any l.toArray = true) (hsz : T.size = a0.tmps.size) (hT : ∀ t, (∀ (i : Nat) (o : Oper), l.toArray[i]? = some o → o.dst ≠ some t) → T.getD t undef = a0.tmps.getD t undef)
    (hstep : AllOK P l.toArray T S l) (hQ : ∀ w, S w → Q .normal { a0 with tmps := T } w) :
    ∀ (suf pre : List Oper) (a : Act) (w : World), l = pre ++ suf → Inv l.toArray T a0 (lk l.length pre.length) a → S w → wpList P l.toArray Q suf a w := by
  intro suf
  induction suf with
  | nil =>
    intro pre a w hl hI hS
    have he : pre.length = l.length := by rw [hl]; simp
    show Q .normal a w
    rw [inv_end hsz hT hI fun i hi => by rw [lk_get _ _ _ _ (by simpa using hi)]; simp at hi; simp; omega]
    exact hQ w hS
  | cons o suf ih =>
    intro pre a w hl hI hS
    have hlen : l.length = pre.length + suf.length + 1 := by rw [hl]; simp; omega
    have ho : l.toArray[pre.length]? = some o := by simp [hl]
    have hsp := deps_spec hd ho
    have h := step_inv (Q := Q) hd hsz hT hstep (listed := lk l.length pre.length) (by simp [lk]) ho (by rw [lk_get _ _ _ _ (by omega)]; simp)
      (fun e he hb => by have := hsp.1 e he hb; rw [lk_get _ _ _ _ (by omega)]; simpa using this) hI hS (K := wpList P l.toArray Q suf)
      (fun u w' hi' hs' => by
        rw [lk_set _ _ (by omega)] at hi'
        exact ih (pre ++ [o]) _ _ (by simp [hl]) (by simpa using hi') hs')
    show (if Region.wanted o (yielded l.toArray a.tmps) then o.wp P a w (wpList P l.toArray Q suf) Q ∨ (o.asks P a w ∧ LetsOut Q) else wpList P l.toArray Q suf (a.put o.dst undef) w)
    by_cases hw : Region.wanted o (yielded l.toArray a.tmps) = true
    · rw [if_pos hw] at h ⊢
      exact .inl h
    · rw [if_neg hw] at h ⊢
      exact h
def sets (A : Array Value) : List (Nat × Value) → Array Value
  | [] => A
  | (t, v) :: r => sets (A.setIfInBounds t v) r
theorem sets_size : ∀ (L : List (Nat × Value)) (A : Array Value), (sets A L).size = A.size
  | [], A => rfl
  | (t, v) :: r, A => by rw [sets, sets_size r, Array.size_setIfInBounds]
theorem sets_other : ∀ (L : List (Nat × Value)) (A : Array Value) (t : Nat), (∀ x ∈ L, x.1 ≠ t) → (sets A L).getD t undef = A.getD t undef
  | [], A, t, _ => rfl
  | (s, v) :: r, A, t, h => by
    rw [sets, sets_other r _ t (fun x hx => h x (List.mem_cons_of_mem _ hx)), getD_set, if_neg (fun e => h (s, v) List.mem_cons_self e.1)]
def keysOk (ops : Array Oper) (ks : List Nat) : Bool := ks.all fun t => ops.any fun o => o.dst == some t
theorem keys_T {ops : Array Oper} {A : Array Value} {L : List (Nat × Value)} (hk : keysOk ops (L.map (·.1)) = true) (t : Nat) (ht : ∀ (i : Nat) (o : Oper), ops[i]? = some o → o.dst ≠ some t) : (sets A L).getD t undef = A.getD t undef := by
  refine sets_other L _ t fun x hx e => ?_
  have := List.all_eq_true.1 hk x.1 (List.mem_map_of_mem hx)
  obtain ⟨o, ho, hb⟩ := (Array.any_iff_exists' this)
  obtain ⟨i, hi, rfl⟩ := Array.mem_iff_getElem.1 ho
  exact ht i _ (Array.getElem?_eq_getElem hi) (by rw [← e]; simpa using hb)
theorem wp_seq {P : Program} {id : Nat} {l : List Oper} {Q : Exit → Act → World → Prop} {a : Act} {w : World} (T : Array Value) (S : World → Prop) (L : List (Nat × Value))
    (hd : depsOk .any l.toArray = true) (hT : T = sets a.tmps L) (hk : keysOk l.toArray (L.map (·.1)) = true)
    (hS : S w) (hstep : AllOK P l.toArray T S l) (hQ : ∀ w', S w' → Q .normal { a with tmps := T } w') : (Code.region id l.toArray false).wp P Q a w := by
  refine wp_region_lit (seq_settled hd (by rw [hT, sets_size]) (fun t ht => by rw [hT]; exact keys_T hk t ht) hstep hQ l [] a w rfl ?_ hS)
  refine ⟨rfl, rfl, fun i o d hi hdst hl => ?_, fun t _ => rfl⟩
  have hlt := (Array.getElem?_eq_some_iff.1 hi).1
  rw [lk_get _ _ _ _ (by simpa using hlt)] at hl
  simp at hl
theorem wp_text {P : Program} {id : Nat} {l : List Oper} {Q : Exit → Act → World → Prop} {a : Act} {w : World} (L : List (Nat × Value)) (S : World → Prop)
    (hd : depsOk .any l.toArray = true) (hk : keysOk l.toArray (L.map (·.1)) = true)
    (hS : S w) (hstep : AllOK P l.toArray (sets a.tmps L) S l) (hQ : ∀ w', S w' → Q .normal { a with tmps := sets a.tmps L } w') : (Code.region id l.toArray false).wp P Q a w :=
  wp_seq (sets a.tmps L) S L hd rfl hk hS hstep hQ
section
variable {P : Program} {ops : Array Oper} {T : Array Value} {S : World → Prop} {o : Oper}
theorem StepOK.pure (d : Nat) (hw : Region.wanted o (yielded ops T) = true) (hd : o.dst = some d) (hr : ∀ w, (execOp (Act.eval ⟨T, []⟩) o).run P w = .ok (.value (T.getD d undef)) w) : StepOK P ops T S o := by
  refine ⟨fun _ w hS => ?_, fun h => by rw [hw] at h; cases h⟩
  unfold Tells
  rw [hr w]
  exact ⟨fun e he => by rw [hd] at he; cases he; rfl, hS⟩
theorem StepOK.load (d : Nat) (v : Value) (hv : T.getD d undef = v) (hw : Region.wanted o (yielded ops T) = true) (hd : o.dst = some d) (hr : ∀ w, S w → (execOp (Act.eval ⟨T, []⟩) o).run P w = .ok (.value v) w) : StepOK P ops T S o := by
  refine ⟨fun _ w hS => ?_, fun h => by rw [hw] at h; cases h⟩
  unfold Tells
  rw [hr w hS]
  exact ⟨fun e he => by rw [hd] at he; cases he; exact hv, hS⟩
theorem StepOK.off (d : Nat) (hw : Region.wanted o (yielded ops T) = false) (hd : o.dst = some d) (hu : T.getD d undef = undef) : StepOK P ops T S o :=
  ⟨fun h => (by rw [hw] at h; cases h), fun _ e he => by rw [hd] at he; cases he; exact hu⟩
theorem StepOK.call (d f : Nat) (args : Array Value) (v : Value) (hv : T.getD d undef = v) (hw : Region.wanted o (yielded ops T) = true) (hd : o.dst = some d) (hr : ∀ w, (execOp (Act.eval ⟨T, []⟩) o).run P w = .ok (.enter f args) w)
    (hc : ∀ w, S w → Calls P f args w fun e w' => e = .returned v ∧ S w') : StepOK P ops T S o := by
  refine ⟨fun _ w hS => ?_, fun h => by rw [hw] at h; cases h⟩
  unfold Tells
  rw [hr w]
  refine (hc w hS).mono ?_
  rintro e w' ⟨rfl, h⟩
  exact ⟨_, rfl, fun e he => by rw [hd] at he; cases he; exact hv, h⟩
end
end Go.RS
namespace Go.Proofs.YtpmclnlgipphmaaDoor.B
open Go.RowKit Go.Proofs.YtpmclnlgipphmaaDoorW.PrintWords Go.Proofs.YtpmclnlgipphmaaDoorW.PrintMore Go.RF
set_option linter.unusedVariables false
set_option linter.unusedSimpArgs false
section
variable {P : Program} {w : World}
end
theorem run_bin {P : Program} {o : Oper} {ρ : Operand → Value} {op : BinOp} {t yt : TypeId} {x y : Operand} {a b v : Value} {w : World} (ho : o.op = .binOp op t x y yt) (hx : ρ x = a) (hy : ρ y = b)
    (hg : (eqGuard op t x y a b).run P w = .ok () w) (h : (binOp op t a b).run P w = .ok v w) : (execOp ρ o).run P w = .ok (.value v) w := by
  unfold execOp
  simp only [ho, hx, hy, Sem.run_bind, hg, h, Result.andThen_ok, Sem.run_pure]
theorem run_load {P : Program} {o : Oper} {ρ : Operand → Value} {t : TypeId} {x : Operand} {a v : Value} {w : World} (ho : o.op = .load t x) (hx : ρ x = a) (h : (Instr.loadAt t a).run P w = .ok v w) : (execOp ρ o).run P w = .ok (.value v) w := by
  unfold execOp
  simp only [ho, hx, Sem.run_bind, h, Result.andThen_ok, Sem.run_pure]
set_option maxRecDepth 100000 in
theorem load_row {W : World} {g : Nat} {cs : Array Value} (hsz : cs.size = 278) (hb : W.heap[g]? = some (.cells cs 29 (0, 0))) : (Instr.loadAt 29 (.pointer (some ⟨g, 0, none⟩))).run Tryd.prog W = .ok (.agg cs) W := by
  simp only [Instr.loadAt, Instr.sureAddr, Sem.run_bind, Sem.run_pure, Result.andThen_ok, run_loadVar_row W g 29 29 cs (0, 0) _ hb Tryd.underlying29 rfl (by rw [hsz]; exact size29)]
def BkS (w0 : World) (g0 g1 : Nat) (cs ds : Array Value) (V : World) : Prop := V.heap[g0]? = some (.cells cs 29 (0, 0)) ∧ V.heap[g1]? = some (.cells ds 29 (0, 0)) ∧ Tab V ∧ Below w0.heap.size w0 V
theorem BkS.below {w0 V W : World} {g0 g1 : Nat} {cs ds : Array Value} (h : BkS w0 g0 g1 cs ds V) (hb : Below V.heap.size V W) : BkS w0 g0 g1 cs ds W := ⟨blk_below h.1 hb, blk_below h.2.1 hb, h.2.2.1.below hb, below_step h.2.2.2 hb⟩
theorem BkS.met {w0 V : World} {g0 g1 : Nat} {cs ds : Array Value} {f : Nat} {args : Array Value} {v : Value} (h : BkS w0 g0 g1 cs ds V) (hc : Calls Tryd.prog f args V fun e w' => e = .returned v ∧ Below V.heap.size V w') : Calls Tryd.prog f args V fun e w' => e = .returned v ∧ BkS w0 g0 g1 cs ds w' :=
  hc.mono fun e w' k => ⟨k.1, h.below k.2⟩
end Go.Proofs.YtpmclnlgipphmaaDoor.B
namespace Go.Proofs.YtpmclnlgipphmaaDoor.B
open Go.RowKit Go.Proofs.YtpmclnlgipphmaaDoorW.PrintWords Go.Proofs.YtpmclnlgipphmaaDoorW.PrintMore Go.RF
set_option linter.unusedVariables false
set_option linter.unusedSimpArgs false
theorem mulwrap (a b : Int) : ∃ t : Int, a * IntKind.u64.wrap b = a * b - 18446744073709551616 * t := by
  rw [IntKind.wrap_u64, Int.emod_def]
  exact ⟨a * (b / 18446744073709551616), by rw [Int.mul_sub]; congr 1; rw [← Int.mul_assoc, Int.mul_comm a, Int.mul_assoc]⟩
def addrF (base idx sc dp nx xb xi : Int) (rip : Bool) : Int := (dp + (if rip = true then nx else 0) + (if 0 ≤ base then xb else 0) + (if 0 ≤ idx then xi * sc else 0)) % 18446744073709551616
theorem sum_addr (base idx sc dp nx xb xi : Int) (rip : Bool) : sumL (partL base idx sc dp nx xb xi rip) = addrF base idx sc dp nx xb xi rip := by
  obtain ⟨t, ht⟩ := mulwrap xi sc
  unfold partL addrF sumL
  cases rip <;> by_cases hb : 0 ≤ base <;> by_cases hi : 0 ≤ idx <;> simp only [hb, hi, if_true, if_false, Bool.false_eq_true, List.append_nil, List.nil_append, List.cons_append, List.foldl_cons, List.foldl_nil, IntKind.wrap_u64, ht] <;>
    (try rw [IntKind.wrap_u64] at ht) <;> (try rw [ht]) <;> generalize xi * sc = p <;> omega
theorem addr_none (base idx sc dp nx xb xi : Int) (hb : ¬ 0 ≤ base) (hi : ¬ 0 ≤ idx) : addrF base idx sc dp nx xb xi false = IntKind.u64.wrap dp := by
  unfold addrF
  rw [if_neg hb, if_neg hi, IntKind.wrap_u64]
  simp
theorem addr_next (base idx sc dp nx xb xi y : Int) : addrF base idx sc dp (IntKind.u64.wrap (nx + y)) xb xi true = IntKind.u64.wrap (addrF base idx sc dp nx xb xi true + y) := by
  unfold addrF
  simp only [if_true, IntKind.wrap_u64]
  generalize (if 0 ≤ idx then xi * sc else 0) = p
  generalize (if 0 ≤ base then xb else 0) = q
  omega
theorem addr_same (base idx sc dp nx ny xb xi : Int) : addrF base idx sc dp ny xb xi false = addrF base idx sc dp nx xb xi false := rfl
def moreF (base idx sc r y : Int) : Int := if idx = r then IntKind.u64.wrap ((if base = r then IntKind.u64.wrap (0 + y) else 0) + IntKind.u64.wrap (y * IntKind.u64.wrap sc)) else (if base = r then IntKind.u64.wrap (0 + y) else 0)
theorem addr_more (base idx sc dp nx xb xi r y : Int) (rip : Bool) (h0 : 0 ≤ r) : addrF base idx sc dp nx (if base = r then IntKind.u64.wrap (xb + y) else xb) (if idx = r then IntKind.u64.wrap (xi + y) else xi) rip = IntKind.u64.wrap (addrF base idx sc dp nx xb xi rip + moreF base idx sc r y) := by
  obtain ⟨t, ht⟩ := mulwrap y sc
  have hw : IntKind.u64.wrap (xi + y) * sc = xi * sc + y * sc - 18446744073709551616 * ((xi + y) / 18446744073709551616 * sc) := by
    rw [IntKind.wrap_u64, Int.emod_def, Int.sub_mul, Int.add_mul, Int.mul_assoc]
  unfold addrF moreF
  generalize (if rip = true then nx else 0) = n
  by_cases hb : base = r
  · rw [if_pos hb, if_pos hb, if_pos (show 0 ≤ base by omega), if_pos (show 0 ≤ base by omega)]
    by_cases hi : idx = r
    · rw [if_pos hi, if_pos hi, if_pos (show 0 ≤ idx by omega), if_pos (show 0 ≤ idx by omega), hw, ht]
      simp only [IntKind.wrap_u64]
      generalize (xi + y) / 18446744073709551616 * sc = z
      generalize xi * sc = p
      generalize y * sc = q
      omega
    · rw [if_neg hi, if_neg hi]
      simp only [IntKind.wrap_u64]
      generalize (if 0 ≤ idx then xi * sc else 0) = p
      omega
  · rw [if_neg hb, if_neg hb]
    by_cases hi : idx = r
    · rw [if_pos hi, if_pos hi, if_pos (show 0 ≤ idx by omega), if_pos (show 0 ≤ idx by omega), hw, ht]
      simp only [IntKind.wrap_u64]
      generalize (xi + y) / 18446744073709551616 * sc = z
      generalize xi * sc = p
      generalize y * sc = q
      generalize (if 0 ≤ base then xb else 0) = b
      omega
    · rw [if_neg hi, if_neg hi]
      simp only [IntKind.wrap_u64]
      generalize (if 0 ≤ idx then xi * sc else 0) = p
      generalize (if 0 ≤ base then xb else 0) = b
      omega
abbrev opC (k R base idx sc dp im : Int) (rip : Bool) : Array Value := #[.int .u8 k, .int .i64 R, .int .i64 base, .int .i64 idx, .int .i64 sc, .int .i64 dp, .bool rip, .int .i64 im]
theorem load_cell {W : World} {g i : Nat} {t : TypeId} {cs : Array Value} {k : IntKind} {x : Int} (hu : Tryd.prog.underlying t = some (.int k)) (hb : W.heap[g]? = some (.cells cs 36 (0, 0))) (hx : cs[i]? = some (.int k x)) : (Instr.loadAt t (.pointer (some ⟨g, i, none⟩))).run Tryd.prog W = .ok (.int k x) W := by
  have q : W.cell? ⟨g, i, none⟩ = some (.int k x) := by rw [bC_ hb]; exact hx
  have ha : (isAgg t).run Tryd.prog W = .ok false W := by unfold isAgg; rw [Sem.run_bind, run_underlying hu]; rfl
  go_simp
theorem load_flag {W : World} {g i : Nat} {cs : Array Value} {x : Bool} (hb : W.heap[g]? = some (.cells cs 36 (0, 0))) (hx : cs[i]? = some (.bool x)) : (Instr.loadAt 4 (.pointer (some ⟨g, i, none⟩))).run Tryd.prog W = .ok (.bool x) W := by
  have q : W.cell? ⟨g, i, none⟩ = some (.bool x) := by rw [bC_ hb]; exact hx
  have hu := Tryd.underlying4
  go_simp
set_option maxRecDepth 100000 in
theorem load_op {W : World} {g : Nat} {k R base idx sc dp im : Int} {rip : Bool} (hb : W.heap[g]? = some (.cells (opC k R base idx sc dp im rip) 36 (0, 0))) : (Instr.loadAt 36 (.pointer (some ⟨g, 0, none⟩))).run Tryd.prog W = .ok (.agg (opC k R base idx sc dp im rip)) W := by
  simp only [Instr.loadAt, Instr.sureAddr, Sem.run_bind, Sem.run_pure, Result.andThen_ok, run_loadVar_row W g 36 36 _ (0, 0) _ hb Tryd.underlying36 rfl (by kernel_rfl)]
theorem eql_i64 {x y : Int} (h : x = y) (w : World) : (binOp .eql 3 (.int .i64 x) (.int .i64 y)).run Tryd.prog w = .ok (.bool true) w := by simp [binOp, Op.intCmp, h]
theorem eql_i64' {x y : Int} (h : x ≠ y) (w : World) : (binOp .eql 3 (.int .i64 x) (.int .i64 y)).run Tryd.prog w = .ok (.bool false) w := by simp [binOp, Op.intCmp, h]
theorem neq_u8' {x y : Int} (h : x ≠ y) (w : World) : (binOp .neq 5 (.int .u8 x) (.int .u8 y)).run Tryd.prog w = .ok (.bool true) w := by simp [binOp, Op.intCmp, h]
theorem neq_word {x y : Int} (h : x = y) (w : World) : (binOp .neq 22 (.int .u64 x) (.int .u64 y)).run Tryd.prog w = .ok (.bool false) w := by simp [binOp, Op.intCmp, h]
def AdS (w0 : World) (g0 g1 : Nat) (cs op : Array Value) (V : World) : Prop := V.heap[g0]? = some (.cells cs 29 (0, 0)) ∧ V.heap[g1]? = some (.cells op 36 (0, 0)) ∧ Tab V ∧ Below w0.heap.size w0 V
theorem AdS.below {w0 V W : World} {g0 g1 : Nat} {cs op : Array Value} (h : AdS w0 g0 g1 cs op V) (hb : Below V.heap.size V W) : AdS w0 g0 g1 cs op W := ⟨blk_below h.1 hb, blk_below h.2.1 hb, h.2.2.1.below hb, below_step h.2.2.2 hb⟩
theorem AdS.met {w0 V : World} {g0 g1 : Nat} {cs op : Array Value} {f : Nat} {args : Array Value} {v : Value} (h : AdS w0 g0 g1 cs op V) (hc : Calls Tryd.prog f args V fun e w' => e = .returned v ∧ Below V.heap.size V w') : Calls Tryd.prog f args V fun e w' => e = .returned v ∧ AdS w0 g0 g1 cs op w' :=
  hc.mono fun e w' k => ⟨k.1, h.below k.2⟩
def AdT (w0 : World) (g0 g1 g2 : Nat) (cs op ds : Array Value) (V : World) : Prop := AdS w0 g0 g1 cs op V ∧ V.heap[g2]? = some (.cells ds 29 (0, 0))
theorem AdT.met {w0 V : World} {g0 g1 g2 : Nat} {cs op ds : Array Value} {f : Nat} {args : Array Value} {v : Value} (h : AdT w0 g0 g1 g2 cs op ds V) (hc : Calls Tryd.prog f args V fun e w' => e = .returned v ∧ Below V.heap.size V w') : Calls Tryd.prog f args V fun e w' => e = .returned v ∧ AdT w0 g0 g1 g2 cs op ds w' :=
  hc.mono fun e w' k => ⟨k.1, h.1.below k.2, blk_below h.2 k.2⟩
end Go.Proofs.YtpmclnlgipphmaaDoor.B
