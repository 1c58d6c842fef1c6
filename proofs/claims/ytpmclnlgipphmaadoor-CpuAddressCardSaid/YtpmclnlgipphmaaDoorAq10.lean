/- The parts of an address, one by one. The parts of an address, one by one. The parts of an address, one by one. -/
import Derived.Test.YtpmclnlgipphmaaDoorAq9
namespace Go.Proofs.YtpmclnlgipphmaaDoor.B
open Go.RowKit Go.Proofs.YtpmclnlgipphmaaDoorW.PrintWords Go.Proofs.YtpmclnlgipphmaaDoorW.PrintMore Go.RF
set_option linter.unusedVariables false
set_option linter.unusedSimpArgs false
attribute [local go_sem] Oper.semAt_some
set_option maxHeartbeats 8000000 in
set_option maxRecDepth 100000 in
theorem parts_0 (bo bn bc : Nat) (k R base idx sc dp im nx d xb xi pr : Int)  (cs : Array Value) (W : World) (Z : Nat → Prop) (hbase : base < 0) (hidx : idx < 0) (hd : IntKind.u64.wrap dp = d) (hpr : IntKind.u64.wrap (xi * IntKind.u64.wrap sc) = pr) (hxb : 0 ≤ base → cs[(base).toNat]? = some (.int .u64 xb)) (hxi : 0 ≤ idx → cs[(idx).toNat]? = some (.int .u64 xi))
    (ho : W.heap[bo]? = some (.cells #[.int .u8 k, .int .i64 R, .int .i64 base, .int .i64 idx, .int .i64 sc, .int .i64 dp, .bool false, .int .i64 im] 36 (0, 0))) (hn : W.heap[bn]? = some (.cells #[.int .u64 nx] 22 (0, 0))) (hc : W.heap[bc]? = some (.cells cs 29 (0, 0))) (hZ : ∀ j, Z j → j ≠ bo ∧ j ≠ bn ∧ j ≠ bc) :
    IterT Tryd.prog 23 #[.pointer (some ⟨bo, 0, none⟩), .pointer (some ⟨bn, 0, none⟩), .pointer (some ⟨bc, 0, none⟩)] encU (fun _ => False) Z [d] W := by
  intro lp J hJ hY h0
  refine callsIn_wide.2 ?_
  simp only [List.append_toArray, List.cons_append, List.nil_append]
  have HY := Aside0.mk hY
  have HJ0 : Aside0 (J [] W.drew) := ⟨hJ _ _ _ h0 (Keeps.refl _ _).drew⟩
  have HS : ∀ V, Keeps (fun j => Z j ∨ W.heap.size ≤ j) W V → PtS bo bn bc base idx sc dp nx xb xi false V := fun V hk => by
    have no : ∀ {j}, j < W.heap.size → (¬ Z j) → ¬ (Z j ∨ W.heap.size ≤ j) := fun h1 h2 h => h.elim h2 (fun h => absurd h1 (Nat.not_lt.2 h))
    obtain ⟨o0, o1, o2, o3, o4, o5, o6, o7⟩ := rows8 (hk.at_ ho (no (blk_lt ho) (fun h => (hZ _ h).1 rfl)))
    have n0 := (cell_of_block (hk.at_ hn (no (blk_lt hn) (fun h => (hZ _ h).2.1 rfl)))).1
    have c0 := hk.at_ hc (no (blk_lt hc) (fun h => (hZ _ h).2.2 rfl))
    exact ⟨o2, o3, o4, o5, o6, n0, fun h => by rw [bC_ c0]; exact hxb h, fun h => by rw [bC_ c0]; exact hxi h⟩
  have hk0 : Keeps (fun j => Z j ∨ W.heap.size ≤ j) W W.drew := (Keeps.refl _ _).drew
  have HK0 := Aside0.mk hk0
  have HHS := Aside0.mk HS
  clear hY h0 ho hn hc hZ hxb hxi HS hk0
  have eb : decide (base < 0) = true := decide_eq_true hbase
  have ei : decide (idx < 0) = true := decide_eq_true hidx
  clear hbase hidx
  obtain ⟨yf, yt, ya, yb, hy, hr⟩ := HY.out [] d [] W.drew rfl HJ0.out
  simp only [encU] at hy
  go_enter Tryd.func23, Tryd.ntmps23
  refine (wpIn_wide (n := 0)).1 ?_
  refine AnyH.start (S := PtS bo bn bc base idx sc dp nx xb xi false) (by kernel_rfl) rfl ?_
  show AnyH _ _ _ _ _ _ _ 47 _ _ _
  have hs0 := HHS.out _ HK0.out
  refine AnyH.take (fuel := 46) (i := 0) (v := .func (.yield lp) #[] #[]) rfl rfl (by kernel_rfl) (by kernel_rfl) (by kernel_rfl) (fun _ _ _ h => h) ⟨.inl ⟨by kernel_rfl, fun V hV => by obtain ⟨s2, s3, s4, s5, s6, s7, s8, s9⟩ := hV; go_simp⟩, fun _ => rfl⟩ hs0 ?_
  (try simp only [Act.put, List.setIfInBounds_toArray, List.set_cons_zero, List.set_cons_succ])
  refine AnyH.take (fuel := 45) (i := 1) (v := .pointer (some ⟨bo, 5, none⟩)) rfl rfl (by kernel_rfl) (by kernel_rfl) (by kernel_rfl) (fun _ _ _ h => h) ⟨.inl ⟨by kernel_rfl, fun V hV => by obtain ⟨s2, s3, s4, s5, s6, s7, s8, s9⟩ := hV; go_simp⟩, fun _ => rfl⟩ hs0 ?_
  (try simp only [Act.put, List.setIfInBounds_toArray, List.set_cons_zero, List.set_cons_succ])
  refine AnyH.take (fuel := 44) (i := 2) (v := .int .i64 dp) rfl rfl (by kernel_rfl) (by kernel_rfl) (by kernel_rfl) (fun _ _ _ h => h) ⟨.inl ⟨by kernel_rfl, fun V hV => by obtain ⟨s2, s3, s4, s5, s6, s7, s8, s9⟩ := hV; go_simp⟩, fun _ => rfl⟩ hs0 ?_
  (try simp only [Act.put, List.setIfInBounds_toArray, List.set_cons_zero, List.set_cons_succ])
  refine AnyH.take (fuel := 43) (i := 3) (v := .int .u64 d) rfl rfl (by kernel_rfl) (by kernel_rfl) (by kernel_rfl) (fun _ _ _ h => h) ⟨.inl ⟨by kernel_rfl, fun V hV => by obtain ⟨s2, s3, s4, s5, s6, s7, s8, s9⟩ := hV; go_simp⟩, fun _ => rfl⟩ hs0 ?_
  (try simp only [Act.put, List.setIfInBounds_toArray, List.set_cons_zero, List.set_cons_succ])
  refine AnyH.one (fuel := 42) (i := 4) rfl (by kernel_rfl) (by kernel_rfl) ?_
  refine ⟨fun _ _ => trivial, ?_⟩
  go_simp
  refine ⟨rfl, hr.mono ?_⟩
  rintro e W1 ⟨rfl, hJ', hk'⟩
  have HJ1 : Aside0 (J [d] W1) := ⟨hJ'⟩
  have HK1 : Aside0 (Keeps (fun j => Z j ∨ W.heap.size ≤ j) W W1) := ⟨HK0.out.trans hk'⟩
  have hs1 := HHS.out _ HK1.out
  clear hJ' hk' hr hy hs0
  refine ⟨hs1, ?_⟩
  (try simp only [Act.put, List.setIfInBounds_toArray, List.set_cons_zero, List.set_cons_succ])
  refine AnyH.take (fuel := 41) (i := 5) (v := .bool true) rfl rfl (by kernel_rfl) (by kernel_rfl) (by kernel_rfl) (fun _ _ _ h => h) ⟨.inl ⟨by kernel_rfl, fun V hV => by obtain ⟨s2, s3, s4, s5, s6, s7, s8, s9⟩ := hV; go_simp⟩, fun _ => rfl⟩ hs1 ?_
  (try simp only [Act.put, List.setIfInBounds_toArray, List.set_cons_zero, List.set_cons_succ])
  refine AnyH.take (fuel := 40) (i := 6) (v := .pointer (some ⟨bo, 6, none⟩)) rfl rfl (by kernel_rfl) (by kernel_rfl) (by kernel_rfl) (fun _ _ _ h => h) ⟨.inl ⟨by kernel_rfl, fun V hV => by obtain ⟨s2, s3, s4, s5, s6, s7, s8, s9⟩ := hV; go_simp⟩, fun _ => rfl⟩ hs1 ?_
  (try simp only [Act.put, List.setIfInBounds_toArray, List.set_cons_zero, List.set_cons_succ])
  refine AnyH.take (fuel := 39) (i := 7) (v := .bool false) rfl rfl (by kernel_rfl) (by kernel_rfl) (by kernel_rfl) (fun _ _ _ h => h) ⟨.inl ⟨by kernel_rfl, fun V hV => by obtain ⟨s2, s3, s4, s5, s6, s7, s8, s9⟩ := hV; go_simp⟩, fun _ => rfl⟩ hs1 ?_
  (try simp only [Act.put, List.setIfInBounds_toArray, List.set_cons_zero, List.set_cons_succ])
  refine AnyH.take (fuel := 38) (i := 8) (v := .bool true) rfl rfl (by kernel_rfl) (by kernel_rfl) (by kernel_rfl) (fun _ _ _ h => h) ⟨.inl ⟨by kernel_rfl, fun V hV => by obtain ⟨s2, s3, s4, s5, s6, s7, s8, s9⟩ := hV; go_simp⟩, fun _ => rfl⟩ hs1 ?_
  (try simp only [Act.put, List.setIfInBounds_toArray, List.set_cons_zero, List.set_cons_succ])
  refine AnyH.take (fuel := 37) (i := 9) (v := .bool true) rfl rfl (by kernel_rfl) (by kernel_rfl) (by kernel_rfl) (fun _ _ _ h => h) ⟨.inl ⟨by kernel_rfl, fun V hV => by obtain ⟨s2, s3, s4, s5, s6, s7, s8, s9⟩ := hV; go_simp⟩, fun _ => rfl⟩ hs1 ?_
  (try simp only [Act.put, List.setIfInBounds_toArray, List.set_cons_zero, List.set_cons_succ])
  refine AnyH.take (fuel := 36) (i := 10) (v := undef) rfl rfl (by kernel_rfl) (by kernel_rfl) (by kernel_rfl) (fun _ _ _ h => h) ⟨.inr ⟨by kernel_rfl, rfl⟩, fun _ => by kernel_rfl⟩ hs1 ?_
  (try simp only [Act.put, List.setIfInBounds_toArray, List.set_cons_zero, List.set_cons_succ])
  refine AnyH.take (fuel := 35) (i := 11) (v := undef) rfl rfl (by kernel_rfl) (by kernel_rfl) (by kernel_rfl) (fun _ _ _ h => h) ⟨.inr ⟨by kernel_rfl, rfl⟩, fun _ => by kernel_rfl⟩ hs1 ?_
  (try simp only [Act.put, List.setIfInBounds_toArray, List.set_cons_zero, List.set_cons_succ])
  refine AnyH.take (fuel := 34) (i := 12) (v := undef) rfl rfl (by kernel_rfl) (by kernel_rfl) (by kernel_rfl) (fun _ _ _ h => h) ⟨.inr ⟨by kernel_rfl, rfl⟩, fun _ => by kernel_rfl⟩ hs1 ?_
  (try simp only [Act.put, List.setIfInBounds_toArray, List.set_cons_zero, List.set_cons_succ])
  refine AnyH.take (fuel := 33) (i := 13) (v := .bool true) rfl rfl (by kernel_rfl) (by kernel_rfl) (by kernel_rfl) (fun _ _ _ h => h) ⟨.inl ⟨by kernel_rfl, fun V hV => by obtain ⟨s2, s3, s4, s5, s6, s7, s8, s9⟩ := hV; go_simp⟩, fun _ => rfl⟩ hs1 ?_
  (try simp only [Act.put, List.setIfInBounds_toArray, List.set_cons_zero, List.set_cons_succ])
  refine AnyH.take (fuel := 32) (i := 14) (v := .bool true) rfl rfl (by kernel_rfl) (by kernel_rfl) (by kernel_rfl) (fun _ _ _ h => h) ⟨.inl ⟨by kernel_rfl, fun V hV => by obtain ⟨s2, s3, s4, s5, s6, s7, s8, s9⟩ := hV; go_simp⟩, fun _ => rfl⟩ hs1 ?_
  (try simp only [Act.put, List.setIfInBounds_toArray, List.set_cons_zero, List.set_cons_succ])
  refine AnyH.take (fuel := 31) (i := 15) (v := .bool true) rfl rfl (by kernel_rfl) (by kernel_rfl) (by kernel_rfl) (fun _ _ _ h => h) ⟨.inl ⟨by kernel_rfl, fun V hV => by obtain ⟨s2, s3, s4, s5, s6, s7, s8, s9⟩ := hV; go_simp⟩, fun _ => rfl⟩ hs1 ?_
  (try simp only [Act.put, List.setIfInBounds_toArray, List.set_cons_zero, List.set_cons_succ])
  refine AnyH.take (fuel := 30) (i := 16) (v := .pointer (some ⟨bo, 2, none⟩)) rfl rfl (by kernel_rfl) (by kernel_rfl) (by kernel_rfl) (fun _ _ _ h => h) ⟨.inl ⟨by kernel_rfl, fun V hV => by obtain ⟨s2, s3, s4, s5, s6, s7, s8, s9⟩ := hV; go_simp⟩, fun _ => rfl⟩ hs1 ?_
  (try simp only [Act.put, List.setIfInBounds_toArray, List.set_cons_zero, List.set_cons_succ])
  refine AnyH.take (fuel := 29) (i := 17) (v := .int .i64 base) rfl rfl (by kernel_rfl) (by kernel_rfl) (by kernel_rfl) (fun _ _ _ h => h) ⟨.inl ⟨by kernel_rfl, fun V hV => by obtain ⟨s2, s3, s4, s5, s6, s7, s8, s9⟩ := hV; go_simp⟩, fun _ => rfl⟩ hs1 ?_
  (try simp only [Act.put, List.setIfInBounds_toArray, List.set_cons_zero, List.set_cons_succ])
  refine AnyH.take (fuel := 28) (i := 18) (v := .bool true) rfl rfl (by kernel_rfl) (by kernel_rfl) (by kernel_rfl) (fun _ _ _ h => h) ⟨.inl ⟨by kernel_rfl, fun V hV => by obtain ⟨s2, s3, s4, s5, s6, s7, s8, s9⟩ := hV; go_simp⟩, fun _ => rfl⟩ hs1 ?_
  (try simp only [Act.put, List.setIfInBounds_toArray, List.set_cons_zero, List.set_cons_succ])
  refine AnyH.take (fuel := 27) (i := 19) (v := .bool true) rfl rfl (by kernel_rfl) (by kernel_rfl) (by kernel_rfl) (fun _ _ _ h => h) ⟨.inl ⟨by kernel_rfl, fun V hV => by obtain ⟨s2, s3, s4, s5, s6, s7, s8, s9⟩ := hV; go_simp⟩, fun _ => rfl⟩ hs1 ?_
  (try simp only [Act.put, List.setIfInBounds_toArray, List.set_cons_zero, List.set_cons_succ])
  refine AnyH.take (fuel := 26) (i := 20) (v := undef) rfl rfl (by kernel_rfl) (by kernel_rfl) (by kernel_rfl) (fun _ _ _ h => h) ⟨.inr ⟨by kernel_rfl, rfl⟩, fun _ => by kernel_rfl⟩ hs1 ?_
  (try simp only [Act.put, List.setIfInBounds_toArray, List.set_cons_zero, List.set_cons_succ])
  refine AnyH.take (fuel := 25) (i := 21) (v := undef) rfl rfl (by kernel_rfl) (by kernel_rfl) (by kernel_rfl) (fun _ _ _ h => h) ⟨.inr ⟨by kernel_rfl, rfl⟩, fun _ => by kernel_rfl⟩ hs1 ?_
  (try simp only [Act.put, List.setIfInBounds_toArray, List.set_cons_zero, List.set_cons_succ])
  refine AnyH.take (fuel := 24) (i := 22) (v := undef) rfl rfl (by kernel_rfl) (by kernel_rfl) (by kernel_rfl) (fun _ _ _ h => h) ⟨.inr ⟨by kernel_rfl, rfl⟩, fun _ => by kernel_rfl⟩ hs1 ?_
  (try simp only [Act.put, List.setIfInBounds_toArray, List.set_cons_zero, List.set_cons_succ])
  refine AnyH.take (fuel := 23) (i := 23) (v := undef) rfl rfl (by kernel_rfl) (by kernel_rfl) (by kernel_rfl) (fun _ _ _ h => h) ⟨.inr ⟨by kernel_rfl, rfl⟩, fun _ => by kernel_rfl⟩ hs1 ?_
  (try simp only [Act.put, List.setIfInBounds_toArray, List.set_cons_zero, List.set_cons_succ])
  refine AnyH.take (fuel := 22) (i := 24) (v := undef) rfl rfl (by kernel_rfl) (by kernel_rfl) (by kernel_rfl) (fun _ _ _ h => h) ⟨.inr ⟨by kernel_rfl, rfl⟩, fun _ => by kernel_rfl⟩ hs1 ?_
  (try simp only [Act.put, List.setIfInBounds_toArray, List.set_cons_zero, List.set_cons_succ])
  refine AnyH.take (fuel := 21) (i := 25) (v := undef) rfl rfl (by kernel_rfl) (by kernel_rfl) (by kernel_rfl) (fun _ _ _ h => h) ⟨.inr ⟨by kernel_rfl, rfl⟩, fun _ => by kernel_rfl⟩ hs1 ?_
  (try simp only [Act.put, List.setIfInBounds_toArray, List.set_cons_zero, List.set_cons_succ])
  refine AnyH.take (fuel := 20) (i := 26) (v := undef) rfl rfl (by kernel_rfl) (by kernel_rfl) (by kernel_rfl) (fun _ _ _ h => h) ⟨.inr ⟨by kernel_rfl, rfl⟩, fun _ => by kernel_rfl⟩ hs1 ?_
  (try simp only [Act.put, List.setIfInBounds_toArray, List.set_cons_zero, List.set_cons_succ])
  refine AnyH.take (fuel := 19) (i := 27) (v := .bool true) rfl rfl (by kernel_rfl) (by kernel_rfl) (by kernel_rfl) (fun _ _ _ h => h) ⟨.inl ⟨by kernel_rfl, fun V hV => by obtain ⟨s2, s3, s4, s5, s6, s7, s8, s9⟩ := hV; go_simp⟩, fun _ => rfl⟩ hs1 ?_
  (try simp only [Act.put, List.setIfInBounds_toArray, List.set_cons_zero, List.set_cons_succ])
  refine AnyH.take (fuel := 18) (i := 28) (v := .bool true) rfl rfl (by kernel_rfl) (by kernel_rfl) (by kernel_rfl) (fun _ _ _ h => h) ⟨.inl ⟨by kernel_rfl, fun V hV => by obtain ⟨s2, s3, s4, s5, s6, s7, s8, s9⟩ := hV; go_simp⟩, fun _ => rfl⟩ hs1 ?_
  (try simp only [Act.put, List.setIfInBounds_toArray, List.set_cons_zero, List.set_cons_succ])
  refine AnyH.take (fuel := 17) (i := 29) (v := .bool true) rfl rfl (by kernel_rfl) (by kernel_rfl) (by kernel_rfl) (fun _ _ _ h => h) ⟨.inl ⟨by kernel_rfl, fun V hV => by obtain ⟨s2, s3, s4, s5, s6, s7, s8, s9⟩ := hV; go_simp⟩, fun _ => rfl⟩ hs1 ?_
  (try simp only [Act.put, List.setIfInBounds_toArray, List.set_cons_zero, List.set_cons_succ])
  refine AnyH.take (fuel := 16) (i := 30) (v := .pointer (some ⟨bo, 3, none⟩)) rfl rfl (by kernel_rfl) (by kernel_rfl) (by kernel_rfl) (fun _ _ _ h => h) ⟨.inl ⟨by kernel_rfl, fun V hV => by obtain ⟨s2, s3, s4, s5, s6, s7, s8, s9⟩ := hV; go_simp⟩, fun _ => rfl⟩ hs1 ?_
  (try simp only [Act.put, List.setIfInBounds_toArray, List.set_cons_zero, List.set_cons_succ])
  refine AnyH.take (fuel := 15) (i := 31) (v := .int .i64 idx) rfl rfl (by kernel_rfl) (by kernel_rfl) (by kernel_rfl) (fun _ _ _ h => h) ⟨.inl ⟨by kernel_rfl, fun V hV => by obtain ⟨s2, s3, s4, s5, s6, s7, s8, s9⟩ := hV; go_simp⟩, fun _ => rfl⟩ hs1 ?_
  (try simp only [Act.put, List.setIfInBounds_toArray, List.set_cons_zero, List.set_cons_succ])
  refine AnyH.take (fuel := 14) (i := 32) (v := .bool true) rfl rfl (by kernel_rfl) (by kernel_rfl) (by kernel_rfl) (fun _ _ _ h => h) ⟨.inl ⟨by kernel_rfl, fun V hV => by obtain ⟨s2, s3, s4, s5, s6, s7, s8, s9⟩ := hV; go_simp⟩, fun _ => rfl⟩ hs1 ?_
  (try simp only [Act.put, List.setIfInBounds_toArray, List.set_cons_zero, List.set_cons_succ])
  refine AnyH.take (fuel := 13) (i := 33) (v := .bool true) rfl rfl (by kernel_rfl) (by kernel_rfl) (by kernel_rfl) (fun _ _ _ h => h) ⟨.inl ⟨by kernel_rfl, fun V hV => by obtain ⟨s2, s3, s4, s5, s6, s7, s8, s9⟩ := hV; go_simp⟩, fun _ => rfl⟩ hs1 ?_
  (try simp only [Act.put, List.setIfInBounds_toArray, List.set_cons_zero, List.set_cons_succ])
  refine AnyH.take (fuel := 12) (i := 34) (v := undef) rfl rfl (by kernel_rfl) (by kernel_rfl) (by kernel_rfl) (fun _ _ _ h => h) ⟨.inr ⟨by kernel_rfl, rfl⟩, fun _ => by kernel_rfl⟩ hs1 ?_
  (try simp only [Act.put, List.setIfInBounds_toArray, List.set_cons_zero, List.set_cons_succ])
  refine AnyH.take (fuel := 11) (i := 35) (v := undef) rfl rfl (by kernel_rfl) (by kernel_rfl) (by kernel_rfl) (fun _ _ _ h => h) ⟨.inr ⟨by kernel_rfl, rfl⟩, fun _ => by kernel_rfl⟩ hs1 ?_
  (try simp only [Act.put, List.setIfInBounds_toArray, List.set_cons_zero, List.set_cons_succ])
  refine AnyH.take (fuel := 10) (i := 36) (v := undef) rfl rfl (by kernel_rfl) (by kernel_rfl) (by kernel_rfl) (fun _ _ _ h => h) ⟨.inr ⟨by kernel_rfl, rfl⟩, fun _ => by kernel_rfl⟩ hs1 ?_
  (try simp only [Act.put, List.setIfInBounds_toArray, List.set_cons_zero, List.set_cons_succ])
  refine AnyH.take (fuel := 9) (i := 37) (v := undef) rfl rfl (by kernel_rfl) (by kernel_rfl) (by kernel_rfl) (fun _ _ _ h => h) ⟨.inr ⟨by kernel_rfl, rfl⟩, fun _ => by kernel_rfl⟩ hs1 ?_
  (try simp only [Act.put, List.setIfInBounds_toArray, List.set_cons_zero, List.set_cons_succ])
  refine AnyH.take (fuel := 8) (i := 38) (v := undef) rfl rfl (by kernel_rfl) (by kernel_rfl) (by kernel_rfl) (fun _ _ _ h => h) ⟨.inr ⟨by kernel_rfl, rfl⟩, fun _ => by kernel_rfl⟩ hs1 ?_
  (try simp only [Act.put, List.setIfInBounds_toArray, List.set_cons_zero, List.set_cons_succ])
  refine AnyH.take (fuel := 7) (i := 39) (v := undef) rfl rfl (by kernel_rfl) (by kernel_rfl) (by kernel_rfl) (fun _ _ _ h => h) ⟨.inr ⟨by kernel_rfl, rfl⟩, fun _ => by kernel_rfl⟩ hs1 ?_
  (try simp only [Act.put, List.setIfInBounds_toArray, List.set_cons_zero, List.set_cons_succ])
  refine AnyH.take (fuel := 6) (i := 40) (v := undef) rfl rfl (by kernel_rfl) (by kernel_rfl) (by kernel_rfl) (fun _ _ _ h => h) ⟨.inr ⟨by kernel_rfl, rfl⟩, fun _ => by kernel_rfl⟩ hs1 ?_
  (try simp only [Act.put, List.setIfInBounds_toArray, List.set_cons_zero, List.set_cons_succ])
  refine AnyH.take (fuel := 5) (i := 41) (v := undef) rfl rfl (by kernel_rfl) (by kernel_rfl) (by kernel_rfl) (fun _ _ _ h => h) ⟨.inr ⟨by kernel_rfl, rfl⟩, fun _ => by kernel_rfl⟩ hs1 ?_
  (try simp only [Act.put, List.setIfInBounds_toArray, List.set_cons_zero, List.set_cons_succ])
  refine AnyH.take (fuel := 4) (i := 42) (v := undef) rfl rfl (by kernel_rfl) (by kernel_rfl) (by kernel_rfl) (fun _ _ _ h => h) ⟨.inr ⟨by kernel_rfl, rfl⟩, fun _ => by kernel_rfl⟩ hs1 ?_
  (try simp only [Act.put, List.setIfInBounds_toArray, List.set_cons_zero, List.set_cons_succ])
  refine AnyH.take (fuel := 3) (i := 43) (v := undef) rfl rfl (by kernel_rfl) (by kernel_rfl) (by kernel_rfl) (fun _ _ _ h => h) ⟨.inr ⟨by kernel_rfl, rfl⟩, fun _ => by kernel_rfl⟩ hs1 ?_
  (try simp only [Act.put, List.setIfInBounds_toArray, List.set_cons_zero, List.set_cons_succ])
  refine AnyH.take (fuel := 2) (i := 44) (v := undef) rfl rfl (by kernel_rfl) (by kernel_rfl) (by kernel_rfl) (fun _ _ _ h => h) ⟨.inr ⟨by kernel_rfl, rfl⟩, fun _ => by kernel_rfl⟩ hs1 ?_
  (try simp only [Act.put, List.setIfInBounds_toArray, List.set_cons_zero, List.set_cons_succ])
  refine AnyH.take (fuel := 1) (i := 45) (v := .bool true) rfl rfl (by kernel_rfl) (by kernel_rfl) (by kernel_rfl) (fun _ _ _ h => h) ⟨.inl ⟨by kernel_rfl, fun V hV => by obtain ⟨s2, s3, s4, s5, s6, s7, s8, s9⟩ := hV; go_simp⟩, fun _ => rfl⟩ hs1 ?_
  (try simp only [Act.put, List.setIfInBounds_toArray, List.set_cons_zero, List.set_cons_succ])
  refine AnyH.take (fuel := 0) (i := 46) (v := .bool true) rfl rfl (by kernel_rfl) (by kernel_rfl) (by kernel_rfl) (fun _ _ _ h => h) ⟨.inl ⟨by kernel_rfl, fun V hV => by obtain ⟨s2, s3, s4, s5, s6, s7, s8, s9⟩ := hV; go_simp⟩, fun _ => rfl⟩ hs1 ?_
  (try simp only [Act.put, List.setIfInBounds_toArray, List.set_cons_zero, List.set_cons_succ])
  refine AnyH.done (by kernel_rfl) ?_ _
  refine bodyPost_end (results_none rfl _ _ _) rfl ⟨⟨_, rfl⟩, HJ1.out⟩
end Go.Proofs.YtpmclnlgipphmaaDoor.B
namespace Go.Proofs.YtpmclnlgipphmaaDoor.B
open Go.RowKit Go.Proofs.YtpmclnlgipphmaaDoorW.PrintWords Go.Proofs.YtpmclnlgipphmaaDoorW.PrintMore Go.RF
set_option linter.unusedVariables false
set_option linter.unusedSimpArgs false
attribute [local go_sem] Oper.semAt_some
set_option maxHeartbeats 8000000 in
set_option maxRecDepth 100000 in
theorem parts_b (bo bn bc : Nat) (k R idx sc dp im nx d xb xi pr : Int) (jb : Nat) (cs : Array Value) (W : World) (Z : Nat → Prop) (hbase : jb < 16) (hidx : idx < 0) (hd : IntKind.u64.wrap dp = d) (hpr : IntKind.u64.wrap (xi * IntKind.u64.wrap sc) = pr) (hxb : 0 ≤ (jb : Int) → cs[((jb : Int)).toNat]? = some (.int .u64 xb)) (hxi : 0 ≤ idx → cs[(idx).toNat]? = some (.int .u64 xi))
    (ho : W.heap[bo]? = some (.cells #[.int .u8 k, .int .i64 R, .int .i64 (jb : Int), .int .i64 idx, .int .i64 sc, .int .i64 dp, .bool false, .int .i64 im] 36 (0, 0))) (hn : W.heap[bn]? = some (.cells #[.int .u64 nx] 22 (0, 0))) (hc : W.heap[bc]? = some (.cells cs 29 (0, 0))) (hZ : ∀ j, Z j → j ≠ bo ∧ j ≠ bn ∧ j ≠ bc) :
    IterT Tryd.prog 23 #[.pointer (some ⟨bo, 0, none⟩), .pointer (some ⟨bn, 0, none⟩), .pointer (some ⟨bc, 0, none⟩)] encU (fun _ => False) Z [d, xb] W := by
  intro lp J hJ hY h0
  refine callsIn_wide.2 ?_
  simp only [List.append_toArray, List.cons_append, List.nil_append]
  have HY := Aside0.mk hY
  have HJ0 : Aside0 (J [] W.drew) := ⟨hJ _ _ _ h0 (Keeps.refl _ _).drew⟩
  have HS : ∀ V, Keeps (fun j => Z j ∨ W.heap.size ≤ j) W V → PtS bo bn bc (jb : Int) idx sc dp nx xb xi false V := fun V hk => by
    have no : ∀ {j}, j < W.heap.size → (¬ Z j) → ¬ (Z j ∨ W.heap.size ≤ j) := fun h1 h2 h => h.elim h2 (fun h => absurd h1 (Nat.not_lt.2 h))
    obtain ⟨o0, o1, o2, o3, o4, o5, o6, o7⟩ := rows8 (hk.at_ ho (no (blk_lt ho) (fun h => (hZ _ h).1 rfl)))
    have n0 := (cell_of_block (hk.at_ hn (no (blk_lt hn) (fun h => (hZ _ h).2.1 rfl)))).1
    have c0 := hk.at_ hc (no (blk_lt hc) (fun h => (hZ _ h).2.2 rfl))
    exact ⟨o2, o3, o4, o5, o6, n0, fun h => by rw [bC_ c0]; exact hxb h, fun h => by rw [bC_ c0]; exact hxi h⟩
  have hk0 : Keeps (fun j => Z j ∨ W.heap.size ≤ j) W W.drew := (Keeps.refl _ _).drew
  have HK0 := Aside0.mk hk0
  have HHS := Aside0.mk HS
  clear hY h0 ho hn hc hZ hxb hxi HS hk0
  have eb : decide ((jb : Int) < 0) = false := decide_eq_false (by omega)
  have eb1 : (jb : Int) < 16 := by omega
  have ei : decide (idx < 0) = true := decide_eq_true hidx
  clear hbase hidx
  obtain ⟨yf, yt, ya, yb, hy, hr⟩ := HY.out [] d [xb] W.drew rfl HJ0.out
  simp only [encU] at hy
  go_enter Tryd.func23, Tryd.ntmps23
  refine (wpIn_wide (n := 0)).1 ?_
  refine AnyH.start (S := PtS bo bn bc (jb : Int) idx sc dp nx xb xi false) (by kernel_rfl) rfl ?_
  show AnyH _ _ _ _ _ _ _ 47 _ _ _
  have hs0 := HHS.out _ HK0.out
  refine AnyH.take (fuel := 46) (i := 0) (v := .func (.yield lp) #[] #[]) rfl rfl (by kernel_rfl) (by kernel_rfl) (by kernel_rfl) (fun _ _ _ h => h) ⟨.inl ⟨by kernel_rfl, fun V hV => by obtain ⟨s2, s3, s4, s5, s6, s7, s8, s9⟩ := hV; go_simp⟩, fun _ => rfl⟩ hs0 ?_
  (try simp only [Act.put, List.setIfInBounds_toArray, List.set_cons_zero, List.set_cons_succ])
  refine AnyH.take (fuel := 45) (i := 1) (v := .pointer (some ⟨bo, 5, none⟩)) rfl rfl (by kernel_rfl) (by kernel_rfl) (by kernel_rfl) (fun _ _ _ h => h) ⟨.inl ⟨by kernel_rfl, fun V hV => by obtain ⟨s2, s3, s4, s5, s6, s7, s8, s9⟩ := hV; go_simp⟩, fun _ => rfl⟩ hs0 ?_
  (try simp only [Act.put, List.setIfInBounds_toArray, List.set_cons_zero, List.set_cons_succ])
  refine AnyH.take (fuel := 44) (i := 2) (v := .int .i64 dp) rfl rfl (by kernel_rfl) (by kernel_rfl) (by kernel_rfl) (fun _ _ _ h => h) ⟨.inl ⟨by kernel_rfl, fun V hV => by obtain ⟨s2, s3, s4, s5, s6, s7, s8, s9⟩ := hV; go_simp⟩, fun _ => rfl⟩ hs0 ?_
  (try simp only [Act.put, List.setIfInBounds_toArray, List.set_cons_zero, List.set_cons_succ])
  refine AnyH.take (fuel := 43) (i := 3) (v := .int .u64 d) rfl rfl (by kernel_rfl) (by kernel_rfl) (by kernel_rfl) (fun _ _ _ h => h) ⟨.inl ⟨by kernel_rfl, fun V hV => by obtain ⟨s2, s3, s4, s5, s6, s7, s8, s9⟩ := hV; go_simp⟩, fun _ => rfl⟩ hs0 ?_
  (try simp only [Act.put, List.setIfInBounds_toArray, List.set_cons_zero, List.set_cons_succ])
  refine AnyH.one (fuel := 42) (i := 4) rfl (by kernel_rfl) (by kernel_rfl) ?_
  refine ⟨fun _ _ => trivial, ?_⟩
  go_simp
  refine ⟨rfl, hr.mono ?_⟩
  rintro e W1 ⟨rfl, hJ', hk'⟩
  have HJ1 : Aside0 (J [d] W1) := ⟨hJ'⟩
  have HK1 : Aside0 (Keeps (fun j => Z j ∨ W.heap.size ≤ j) W W1) := ⟨HK0.out.trans hk'⟩
  have hs1 := HHS.out _ HK1.out
  clear hJ' hk' hr hy hs0
  obtain ⟨yf1, yt1, ya1, yb1, hy, hr⟩ := HY.out [d] xb [] W1 rfl HJ1.out
  simp only [encU] at hy
  refine ⟨hs1, ?_⟩
  (try simp only [Act.put, List.setIfInBounds_toArray, List.set_cons_zero, List.set_cons_succ])
  refine AnyH.take (fuel := 41) (i := 5) (v := .bool true) rfl rfl (by kernel_rfl) (by kernel_rfl) (by kernel_rfl) (fun _ _ _ h => h) ⟨.inl ⟨by kernel_rfl, fun V hV => by obtain ⟨s2, s3, s4, s5, s6, s7, s8, s9⟩ := hV; go_simp⟩, fun _ => rfl⟩ hs1 ?_
  (try simp only [Act.put, List.setIfInBounds_toArray, List.set_cons_zero, List.set_cons_succ])
  refine AnyH.take (fuel := 40) (i := 6) (v := .pointer (some ⟨bo, 6, none⟩)) rfl rfl (by kernel_rfl) (by kernel_rfl) (by kernel_rfl) (fun _ _ _ h => h) ⟨.inl ⟨by kernel_rfl, fun V hV => by obtain ⟨s2, s3, s4, s5, s6, s7, s8, s9⟩ := hV; go_simp⟩, fun _ => rfl⟩ hs1 ?_
  (try simp only [Act.put, List.setIfInBounds_toArray, List.set_cons_zero, List.set_cons_succ])
  refine AnyH.take (fuel := 39) (i := 7) (v := .bool false) rfl rfl (by kernel_rfl) (by kernel_rfl) (by kernel_rfl) (fun _ _ _ h => h) ⟨.inl ⟨by kernel_rfl, fun V hV => by obtain ⟨s2, s3, s4, s5, s6, s7, s8, s9⟩ := hV; go_simp⟩, fun _ => rfl⟩ hs1 ?_
  (try simp only [Act.put, List.setIfInBounds_toArray, List.set_cons_zero, List.set_cons_succ])
  refine AnyH.take (fuel := 38) (i := 8) (v := .bool true) rfl rfl (by kernel_rfl) (by kernel_rfl) (by kernel_rfl) (fun _ _ _ h => h) ⟨.inl ⟨by kernel_rfl, fun V hV => by obtain ⟨s2, s3, s4, s5, s6, s7, s8, s9⟩ := hV; go_simp⟩, fun _ => rfl⟩ hs1 ?_
  (try simp only [Act.put, List.setIfInBounds_toArray, List.set_cons_zero, List.set_cons_succ])
  refine AnyH.take (fuel := 37) (i := 9) (v := .bool true) rfl rfl (by kernel_rfl) (by kernel_rfl) (by kernel_rfl) (fun _ _ _ h => h) ⟨.inl ⟨by kernel_rfl, fun V hV => by obtain ⟨s2, s3, s4, s5, s6, s7, s8, s9⟩ := hV; go_simp⟩, fun _ => rfl⟩ hs1 ?_
  (try simp only [Act.put, List.setIfInBounds_toArray, List.set_cons_zero, List.set_cons_succ])
  refine AnyH.take (fuel := 36) (i := 10) (v := undef) rfl rfl (by kernel_rfl) (by kernel_rfl) (by kernel_rfl) (fun _ _ _ h => h) ⟨.inr ⟨by kernel_rfl, rfl⟩, fun _ => by kernel_rfl⟩ hs1 ?_
  (try simp only [Act.put, List.setIfInBounds_toArray, List.set_cons_zero, List.set_cons_succ])
  refine AnyH.take (fuel := 35) (i := 11) (v := undef) rfl rfl (by kernel_rfl) (by kernel_rfl) (by kernel_rfl) (fun _ _ _ h => h) ⟨.inr ⟨by kernel_rfl, rfl⟩, fun _ => by kernel_rfl⟩ hs1 ?_
  (try simp only [Act.put, List.setIfInBounds_toArray, List.set_cons_zero, List.set_cons_succ])
  refine AnyH.take (fuel := 34) (i := 12) (v := undef) rfl rfl (by kernel_rfl) (by kernel_rfl) (by kernel_rfl) (fun _ _ _ h => h) ⟨.inr ⟨by kernel_rfl, rfl⟩, fun _ => by kernel_rfl⟩ hs1 ?_
  (try simp only [Act.put, List.setIfInBounds_toArray, List.set_cons_zero, List.set_cons_succ])
  refine AnyH.take (fuel := 33) (i := 13) (v := .bool true) rfl rfl (by kernel_rfl) (by kernel_rfl) (by kernel_rfl) (fun _ _ _ h => h) ⟨.inl ⟨by kernel_rfl, fun V hV => by obtain ⟨s2, s3, s4, s5, s6, s7, s8, s9⟩ := hV; go_simp⟩, fun _ => rfl⟩ hs1 ?_
  (try simp only [Act.put, List.setIfInBounds_toArray, List.set_cons_zero, List.set_cons_succ])
  refine AnyH.take (fuel := 32) (i := 14) (v := .bool true) rfl rfl (by kernel_rfl) (by kernel_rfl) (by kernel_rfl) (fun _ _ _ h => h) ⟨.inl ⟨by kernel_rfl, fun V hV => by obtain ⟨s2, s3, s4, s5, s6, s7, s8, s9⟩ := hV; go_simp⟩, fun _ => rfl⟩ hs1 ?_
  (try simp only [Act.put, List.setIfInBounds_toArray, List.set_cons_zero, List.set_cons_succ])
  refine AnyH.take (fuel := 31) (i := 15) (v := .bool true) rfl rfl (by kernel_rfl) (by kernel_rfl) (by kernel_rfl) (fun _ _ _ h => h) ⟨.inl ⟨by kernel_rfl, fun V hV => by obtain ⟨s2, s3, s4, s5, s6, s7, s8, s9⟩ := hV; go_simp⟩, fun _ => rfl⟩ hs1 ?_
  (try simp only [Act.put, List.setIfInBounds_toArray, List.set_cons_zero, List.set_cons_succ])
  refine AnyH.take (fuel := 30) (i := 16) (v := .pointer (some ⟨bo, 2, none⟩)) rfl rfl (by kernel_rfl) (by kernel_rfl) (by kernel_rfl) (fun _ _ _ h => h) ⟨.inl ⟨by kernel_rfl, fun V hV => by obtain ⟨s2, s3, s4, s5, s6, s7, s8, s9⟩ := hV; go_simp⟩, fun _ => rfl⟩ hs1 ?_
  (try simp only [Act.put, List.setIfInBounds_toArray, List.set_cons_zero, List.set_cons_succ])
  refine AnyH.take (fuel := 29) (i := 17) (v := .int .i64 (jb : Int)) rfl rfl (by kernel_rfl) (by kernel_rfl) (by kernel_rfl) (fun _ _ _ h => h) ⟨.inl ⟨by kernel_rfl, fun V hV => by obtain ⟨s2, s3, s4, s5, s6, s7, s8, s9⟩ := hV; go_simp⟩, fun _ => rfl⟩ hs1 ?_
  (try simp only [Act.put, List.setIfInBounds_toArray, List.set_cons_zero, List.set_cons_succ])
  refine AnyH.take (fuel := 28) (i := 18) (v := .bool false) rfl rfl (by kernel_rfl) (by kernel_rfl) (by kernel_rfl) (fun _ _ _ h => h) ⟨.inl ⟨by kernel_rfl, fun V hV => by obtain ⟨s2, s3, s4, s5, s6, s7, s8, s9⟩ := hV; go_simp⟩, fun _ => rfl⟩ hs1 ?_
  (try simp only [Act.put, List.setIfInBounds_toArray, List.set_cons_zero, List.set_cons_succ])
  refine AnyH.take (fuel := 27) (i := 19) (v := .bool false) rfl rfl (by kernel_rfl) (by kernel_rfl) (by kernel_rfl) (fun _ _ _ h => h) ⟨.inl ⟨by kernel_rfl, fun V hV => by obtain ⟨s2, s3, s4, s5, s6, s7, s8, s9⟩ := hV; go_simp⟩, fun _ => rfl⟩ hs1 ?_
  (try simp only [Act.put, List.setIfInBounds_toArray, List.set_cons_zero, List.set_cons_succ])
  refine AnyH.take (fuel := 26) (i := 20) (v := .func (.yield lp) #[] #[]) rfl rfl (by kernel_rfl) (by kernel_rfl) (by kernel_rfl) (fun _ _ _ h => h) ⟨.inl ⟨by kernel_rfl, fun V hV => by obtain ⟨s2, s3, s4, s5, s6, s7, s8, s9⟩ := hV; go_simp⟩, fun _ => rfl⟩ hs1 ?_
  (try simp only [Act.put, List.setIfInBounds_toArray, List.set_cons_zero, List.set_cons_succ])
  refine AnyH.take (fuel := 25) (i := 21) (v := .pointer (some ⟨bo, 2, none⟩)) rfl rfl (by kernel_rfl) (by kernel_rfl) (by kernel_rfl) (fun _ _ _ h => h) ⟨.inl ⟨by kernel_rfl, fun V hV => by obtain ⟨s2, s3, s4, s5, s6, s7, s8, s9⟩ := hV; go_simp⟩, fun _ => rfl⟩ hs1 ?_
  (try simp only [Act.put, List.setIfInBounds_toArray, List.set_cons_zero, List.set_cons_succ])
  refine AnyH.take (fuel := 24) (i := 22) (v := .int .i64 (jb : Int)) rfl rfl (by kernel_rfl) (by kernel_rfl) (by kernel_rfl) (fun _ _ _ h => h) ⟨.inl ⟨by kernel_rfl, fun V hV => by obtain ⟨s2, s3, s4, s5, s6, s7, s8, s9⟩ := hV; go_simp⟩, fun _ => rfl⟩ hs1 ?_
  (try simp only [Act.put, List.setIfInBounds_toArray, List.set_cons_zero, List.set_cons_succ])
  refine AnyH.take (fuel := 23) (i := 23) (v := .pointer (some ⟨bc, 0, none⟩)) rfl rfl (by kernel_rfl) (by kernel_rfl) (by kernel_rfl) (fun _ _ _ h => h) ⟨.inl ⟨by kernel_rfl, fun V hV => by obtain ⟨s2, s3, s4, s5, s6, s7, s8, s9⟩ := hV; go_simp⟩, fun _ => rfl⟩ hs1 ?_
  (try simp only [Act.put, List.setIfInBounds_toArray, List.set_cons_zero, List.set_cons_succ])
  refine AnyH.take (fuel := 22) (i := 24) (v := .pointer (some ⟨bc, jb, none⟩)) rfl rfl (by kernel_rfl) (by kernel_rfl) (by kernel_rfl) (fun _ _ _ h => h) ⟨.inl ⟨by kernel_rfl, fun V hV => by obtain ⟨s2, s3, s4, s5, s6, s7, s8, s9⟩ := hV; go_simp⟩, fun _ => rfl⟩ hs1 ?_
  (try simp only [Act.put, List.setIfInBounds_toArray, List.set_cons_zero, List.set_cons_succ])
  refine AnyH.take (fuel := 21) (i := 25) (v := .int .u64 xb) rfl rfl (by kernel_rfl) (by kernel_rfl) (by kernel_rfl) (fun _ _ _ h => h) ⟨.inl ⟨by kernel_rfl, fun V hV => by obtain ⟨s2, s3, s4, s5, s6, s7, s8, s9⟩ := hV; replace s8 := s8 (Int.natCast_nonneg _); rw [Int.toNat_natCast] at s8; go_simp⟩, fun _ => rfl⟩ hs1 ?_
  (try simp only [Act.put, List.setIfInBounds_toArray, List.set_cons_zero, List.set_cons_succ])
  refine AnyH.one (fuel := 20) (i := 26) rfl (by kernel_rfl) (by kernel_rfl) ?_
  refine ⟨fun _ _ => trivial, ?_⟩
  go_simp
  refine ⟨rfl, hr.mono ?_⟩
  rintro e W2 ⟨rfl, hJ', hk'⟩
  have HJ2 : Aside0 (J [d, xb] W2) := ⟨hJ'⟩
  have HK2 : Aside0 (Keeps (fun j => Z j ∨ W.heap.size ≤ j) W W2) := ⟨HK1.out.trans hk'⟩
  have hs2 := HHS.out _ HK2.out
  clear hJ' hk' hr hy hs1
  refine ⟨hs2, ?_⟩
  (try simp only [Act.put, List.setIfInBounds_toArray, List.set_cons_zero, List.set_cons_succ])
  refine AnyH.take (fuel := 19) (i := 27) (v := .bool true) rfl rfl (by kernel_rfl) (by kernel_rfl) (by kernel_rfl) (fun _ _ _ h => h) ⟨.inl ⟨by kernel_rfl, fun V hV => by obtain ⟨s2, s3, s4, s5, s6, s7, s8, s9⟩ := hV; go_simp⟩, fun _ => rfl⟩ hs2 ?_
  (try simp only [Act.put, List.setIfInBounds_toArray, List.set_cons_zero, List.set_cons_succ])
  refine AnyH.take (fuel := 18) (i := 28) (v := .bool true) rfl rfl (by kernel_rfl) (by kernel_rfl) (by kernel_rfl) (fun _ _ _ h => h) ⟨.inl ⟨by kernel_rfl, fun V hV => by obtain ⟨s2, s3, s4, s5, s6, s7, s8, s9⟩ := hV; go_simp⟩, fun _ => rfl⟩ hs2 ?_
  (try simp only [Act.put, List.setIfInBounds_toArray, List.set_cons_zero, List.set_cons_succ])
  refine AnyH.take (fuel := 17) (i := 29) (v := .bool true) rfl rfl (by kernel_rfl) (by kernel_rfl) (by kernel_rfl) (fun _ _ _ h => h) ⟨.inl ⟨by kernel_rfl, fun V hV => by obtain ⟨s2, s3, s4, s5, s6, s7, s8, s9⟩ := hV; go_simp⟩, fun _ => rfl⟩ hs2 ?_
  (try simp only [Act.put, List.setIfInBounds_toArray, List.set_cons_zero, List.set_cons_succ])
  refine AnyH.take (fuel := 16) (i := 30) (v := .pointer (some ⟨bo, 3, none⟩)) rfl rfl (by kernel_rfl) (by kernel_rfl) (by kernel_rfl) (fun _ _ _ h => h) ⟨.inl ⟨by kernel_rfl, fun V hV => by obtain ⟨s2, s3, s4, s5, s6, s7, s8, s9⟩ := hV; go_simp⟩, fun _ => rfl⟩ hs2 ?_
  (try simp only [Act.put, List.setIfInBounds_toArray, List.set_cons_zero, List.set_cons_succ])
  refine AnyH.take (fuel := 15) (i := 31) (v := .int .i64 idx) rfl rfl (by kernel_rfl) (by kernel_rfl) (by kernel_rfl) (fun _ _ _ h => h) ⟨.inl ⟨by kernel_rfl, fun V hV => by obtain ⟨s2, s3, s4, s5, s6, s7, s8, s9⟩ := hV; go_simp⟩, fun _ => rfl⟩ hs2 ?_
  (try simp only [Act.put, List.setIfInBounds_toArray, List.set_cons_zero, List.set_cons_succ])
  refine AnyH.take (fuel := 14) (i := 32) (v := .bool true) rfl rfl (by kernel_rfl) (by kernel_rfl) (by kernel_rfl) (fun _ _ _ h => h) ⟨.inl ⟨by kernel_rfl, fun V hV => by obtain ⟨s2, s3, s4, s5, s6, s7, s8, s9⟩ := hV; go_simp⟩, fun _ => rfl⟩ hs2 ?_
  (try simp only [Act.put, List.setIfInBounds_toArray, List.set_cons_zero, List.set_cons_succ])
  refine AnyH.take (fuel := 13) (i := 33) (v := .bool true) rfl rfl (by kernel_rfl) (by kernel_rfl) (by kernel_rfl) (fun _ _ _ h => h) ⟨.inl ⟨by kernel_rfl, fun V hV => by obtain ⟨s2, s3, s4, s5, s6, s7, s8, s9⟩ := hV; go_simp⟩, fun _ => rfl⟩ hs2 ?_
  (try simp only [Act.put, List.setIfInBounds_toArray, List.set_cons_zero, List.set_cons_succ])
  refine AnyH.take (fuel := 12) (i := 34) (v := undef) rfl rfl (by kernel_rfl) (by kernel_rfl) (by kernel_rfl) (fun _ _ _ h => h) ⟨.inr ⟨by kernel_rfl, rfl⟩, fun _ => by kernel_rfl⟩ hs2 ?_
  (try simp only [Act.put, List.setIfInBounds_toArray, List.set_cons_zero, List.set_cons_succ])
  refine AnyH.take (fuel := 11) (i := 35) (v := undef) rfl rfl (by kernel_rfl) (by kernel_rfl) (by kernel_rfl) (fun _ _ _ h => h) ⟨.inr ⟨by kernel_rfl, rfl⟩, fun _ => by kernel_rfl⟩ hs2 ?_
  (try simp only [Act.put, List.setIfInBounds_toArray, List.set_cons_zero, List.set_cons_succ])
  refine AnyH.take (fuel := 10) (i := 36) (v := undef) rfl rfl (by kernel_rfl) (by kernel_rfl) (by kernel_rfl) (fun _ _ _ h => h) ⟨.inr ⟨by kernel_rfl, rfl⟩, fun _ => by kernel_rfl⟩ hs2 ?_
  (try simp only [Act.put, List.setIfInBounds_toArray, List.set_cons_zero, List.set_cons_succ])
  refine AnyH.take (fuel := 9) (i := 37) (v := undef) rfl rfl (by kernel_rfl) (by kernel_rfl) (by kernel_rfl) (fun _ _ _ h => h) ⟨.inr ⟨by kernel_rfl, rfl⟩, fun _ => by kernel_rfl⟩ hs2 ?_
  (try simp only [Act.put, List.setIfInBounds_toArray, List.set_cons_zero, List.set_cons_succ])
  refine AnyH.take (fuel := 8) (i := 38) (v := undef) rfl rfl (by kernel_rfl) (by kernel_rfl) (by kernel_rfl) (fun _ _ _ h => h) ⟨.inr ⟨by kernel_rfl, rfl⟩, fun _ => by kernel_rfl⟩ hs2 ?_
  (try simp only [Act.put, List.setIfInBounds_toArray, List.set_cons_zero, List.set_cons_succ])
  refine AnyH.take (fuel := 7) (i := 39) (v := undef) rfl rfl (by kernel_rfl) (by kernel_rfl) (by kernel_rfl) (fun _ _ _ h => h) ⟨.inr ⟨by kernel_rfl, rfl⟩, fun _ => by kernel_rfl⟩ hs2 ?_
  (try simp only [Act.put, List.setIfInBounds_toArray, List.set_cons_zero, List.set_cons_succ])
  refine AnyH.take (fuel := 6) (i := 40) (v := undef) rfl rfl (by kernel_rfl) (by kernel_rfl) (by kernel_rfl) (fun _ _ _ h => h) ⟨.inr ⟨by kernel_rfl, rfl⟩, fun _ => by kernel_rfl⟩ hs2 ?_
  (try simp only [Act.put, List.setIfInBounds_toArray, List.set_cons_zero, List.set_cons_succ])
  refine AnyH.take (fuel := 5) (i := 41) (v := undef) rfl rfl (by kernel_rfl) (by kernel_rfl) (by kernel_rfl) (fun _ _ _ h => h) ⟨.inr ⟨by kernel_rfl, rfl⟩, fun _ => by kernel_rfl⟩ hs2 ?_
  (try simp only [Act.put, List.setIfInBounds_toArray, List.set_cons_zero, List.set_cons_succ])
  refine AnyH.take (fuel := 4) (i := 42) (v := undef) rfl rfl (by kernel_rfl) (by kernel_rfl) (by kernel_rfl) (fun _ _ _ h => h) ⟨.inr ⟨by kernel_rfl, rfl⟩, fun _ => by kernel_rfl⟩ hs2 ?_
  (try simp only [Act.put, List.setIfInBounds_toArray, List.set_cons_zero, List.set_cons_succ])
  refine AnyH.take (fuel := 3) (i := 43) (v := undef) rfl rfl (by kernel_rfl) (by kernel_rfl) (by kernel_rfl) (fun _ _ _ h => h) ⟨.inr ⟨by kernel_rfl, rfl⟩, fun _ => by kernel_rfl⟩ hs2 ?_
  (try simp only [Act.put, List.setIfInBounds_toArray, List.set_cons_zero, List.set_cons_succ])
  refine AnyH.take (fuel := 2) (i := 44) (v := undef) rfl rfl (by kernel_rfl) (by kernel_rfl) (by kernel_rfl) (fun _ _ _ h => h) ⟨.inr ⟨by kernel_rfl, rfl⟩, fun _ => by kernel_rfl⟩ hs2 ?_
  (try simp only [Act.put, List.setIfInBounds_toArray, List.set_cons_zero, List.set_cons_succ])
  refine AnyH.take (fuel := 1) (i := 45) (v := .bool true) rfl rfl (by kernel_rfl) (by kernel_rfl) (by kernel_rfl) (fun _ _ _ h => h) ⟨.inl ⟨by kernel_rfl, fun V hV => by obtain ⟨s2, s3, s4, s5, s6, s7, s8, s9⟩ := hV; go_simp⟩, fun _ => rfl⟩ hs2 ?_
  (try simp only [Act.put, List.setIfInBounds_toArray, List.set_cons_zero, List.set_cons_succ])
  refine AnyH.take (fuel := 0) (i := 46) (v := .bool true) rfl rfl (by kernel_rfl) (by kernel_rfl) (by kernel_rfl) (fun _ _ _ h => h) ⟨.inl ⟨by kernel_rfl, fun V hV => by obtain ⟨s2, s3, s4, s5, s6, s7, s8, s9⟩ := hV; go_simp⟩, fun _ => rfl⟩ hs2 ?_
  (try simp only [Act.put, List.setIfInBounds_toArray, List.set_cons_zero, List.set_cons_succ])
  refine AnyH.done (by kernel_rfl) ?_ _
  refine bodyPost_end (results_none rfl _ _ _) rfl ⟨⟨_, rfl⟩, HJ2.out⟩
end Go.Proofs.YtpmclnlgipphmaaDoor.B
namespace Go.Proofs.YtpmclnlgipphmaaDoor.B
open Go.RowKit Go.Proofs.YtpmclnlgipphmaaDoorW.PrintWords Go.Proofs.YtpmclnlgipphmaaDoorW.PrintMore Go.RF
set_option linter.unusedVariables false
set_option linter.unusedSimpArgs false
attribute [local go_sem] Oper.semAt_some
set_option maxHeartbeats 8000000 in
set_option maxRecDepth 100000 in
theorem parts_i (bo bn bc : Nat) (k R base  sc dp im nx d xb xi pr : Int) (ji : Nat) (cs : Array Value) (W : World) (Z : Nat → Prop) (hbase : base < 0) (hidx : ji < 16) (hd : IntKind.u64.wrap dp = d) (hpr : IntKind.u64.wrap (xi * IntKind.u64.wrap sc) = pr) (hxb : 0 ≤ base → cs[(base).toNat]? = some (.int .u64 xb)) (hxi : 0 ≤ (ji : Int) → cs[((ji : Int)).toNat]? = some (.int .u64 xi))
    (ho : W.heap[bo]? = some (.cells #[.int .u8 k, .int .i64 R, .int .i64 base, .int .i64 (ji : Int), .int .i64 sc, .int .i64 dp, .bool false, .int .i64 im] 36 (0, 0))) (hn : W.heap[bn]? = some (.cells #[.int .u64 nx] 22 (0, 0))) (hc : W.heap[bc]? = some (.cells cs 29 (0, 0))) (hZ : ∀ j, Z j → j ≠ bo ∧ j ≠ bn ∧ j ≠ bc) :
    IterT Tryd.prog 23 #[.pointer (some ⟨bo, 0, none⟩), .pointer (some ⟨bn, 0, none⟩), .pointer (some ⟨bc, 0, none⟩)] encU (fun _ => False) Z [d, pr] W := by
  intro lp J hJ hY h0
  refine callsIn_wide.2 ?_
  simp only [List.append_toArray, List.cons_append, List.nil_append]
  have HY := Aside0.mk hY
  have HJ0 : Aside0 (J [] W.drew) := ⟨hJ _ _ _ h0 (Keeps.refl _ _).drew⟩
  have HS : ∀ V, Keeps (fun j => Z j ∨ W.heap.size ≤ j) W V → PtS bo bn bc base (ji : Int) sc dp nx xb xi false V := fun V hk => by
    have no : ∀ {j}, j < W.heap.size → (¬ Z j) → ¬ (Z j ∨ W.heap.size ≤ j) := fun h1 h2 h => h.elim h2 (fun h => absurd h1 (Nat.not_lt.2 h))
    obtain ⟨o0, o1, o2, o3, o4, o5, o6, o7⟩ := rows8 (hk.at_ ho (no (blk_lt ho) (fun h => (hZ _ h).1 rfl)))
    have n0 := (cell_of_block (hk.at_ hn (no (blk_lt hn) (fun h => (hZ _ h).2.1 rfl)))).1
    have c0 := hk.at_ hc (no (blk_lt hc) (fun h => (hZ _ h).2.2 rfl))
    exact ⟨o2, o3, o4, o5, o6, n0, fun h => by rw [bC_ c0]; exact hxb h, fun h => by rw [bC_ c0]; exact hxi h⟩
  have hk0 : Keeps (fun j => Z j ∨ W.heap.size ≤ j) W W.drew := (Keeps.refl _ _).drew
  have HK0 := Aside0.mk hk0
  have HHS := Aside0.mk HS
  clear hY h0 ho hn hc hZ hxb hxi HS hk0
  have eb : decide (base < 0) = true := decide_eq_true hbase
  have ei : decide ((ji : Int) < 0) = false := decide_eq_false (by omega)
  have ei1 : (ji : Int) < 16 := by omega
  clear hbase hidx
  obtain ⟨yf, yt, ya, yb, hy, hr⟩ := HY.out [] d [pr] W.drew rfl HJ0.out
  simp only [encU] at hy
  go_enter Tryd.func23, Tryd.ntmps23
  refine (wpIn_wide (n := 0)).1 ?_
  refine AnyH.start (S := PtS bo bn bc base (ji : Int) sc dp nx xb xi false) (by kernel_rfl) rfl ?_
  show AnyH _ _ _ _ _ _ _ 47 _ _ _
  have hs0 := HHS.out _ HK0.out
  refine AnyH.take (fuel := 46) (i := 0) (v := .func (.yield lp) #[] #[]) rfl rfl (by kernel_rfl) (by kernel_rfl) (by kernel_rfl) (fun _ _ _ h => h) ⟨.inl ⟨by kernel_rfl, fun V hV => by obtain ⟨s2, s3, s4, s5, s6, s7, s8, s9⟩ := hV; go_simp⟩, fun _ => rfl⟩ hs0 ?_
  (try simp only [Act.put, List.setIfInBounds_toArray, List.set_cons_zero, List.set_cons_succ])
  refine AnyH.take (fuel := 45) (i := 1) (v := .pointer (some ⟨bo, 5, none⟩)) rfl rfl (by kernel_rfl) (by kernel_rfl) (by kernel_rfl) (fun _ _ _ h => h) ⟨.inl ⟨by kernel_rfl, fun V hV => by obtain ⟨s2, s3, s4, s5, s6, s7, s8, s9⟩ := hV; go_simp⟩, fun _ => rfl⟩ hs0 ?_
  (try simp only [Act.put, List.setIfInBounds_toArray, List.set_cons_zero, List.set_cons_succ])
  refine AnyH.take (fuel := 44) (i := 2) (v := .int .i64 dp) rfl rfl (by kernel_rfl) (by kernel_rfl) (by kernel_rfl) (fun _ _ _ h => h) ⟨.inl ⟨by kernel_rfl, fun V hV => by obtain ⟨s2, s3, s4, s5, s6, s7, s8, s9⟩ := hV; go_simp⟩, fun _ => rfl⟩ hs0 ?_
  (try simp only [Act.put, List.setIfInBounds_toArray, List.set_cons_zero, List.set_cons_succ])
  refine AnyH.take (fuel := 43) (i := 3) (v := .int .u64 d) rfl rfl (by kernel_rfl) (by kernel_rfl) (by kernel_rfl) (fun _ _ _ h => h) ⟨.inl ⟨by kernel_rfl, fun V hV => by obtain ⟨s2, s3, s4, s5, s6, s7, s8, s9⟩ := hV; go_simp⟩, fun _ => rfl⟩ hs0 ?_
  (try simp only [Act.put, List.setIfInBounds_toArray, List.set_cons_zero, List.set_cons_succ])
  refine AnyH.one (fuel := 42) (i := 4) rfl (by kernel_rfl) (by kernel_rfl) ?_
  refine ⟨fun _ _ => trivial, ?_⟩
  go_simp
  refine ⟨rfl, hr.mono ?_⟩
  rintro e W1 ⟨rfl, hJ', hk'⟩
  have HJ1 : Aside0 (J [d] W1) := ⟨hJ'⟩
  have HK1 : Aside0 (Keeps (fun j => Z j ∨ W.heap.size ≤ j) W W1) := ⟨HK0.out.trans hk'⟩
  have hs1 := HHS.out _ HK1.out
  clear hJ' hk' hr hy hs0
  obtain ⟨yf1, yt1, ya1, yb1, hy, hr⟩ := HY.out [d] pr [] W1 rfl HJ1.out
  simp only [encU] at hy
  refine ⟨hs1, ?_⟩
  (try simp only [Act.put, List.setIfInBounds_toArray, List.set_cons_zero, List.set_cons_succ])
  refine AnyH.take (fuel := 41) (i := 5) (v := .bool true) rfl rfl (by kernel_rfl) (by kernel_rfl) (by kernel_rfl) (fun _ _ _ h => h) ⟨.inl ⟨by kernel_rfl, fun V hV => by obtain ⟨s2, s3, s4, s5, s6, s7, s8, s9⟩ := hV; go_simp⟩, fun _ => rfl⟩ hs1 ?_
  (try simp only [Act.put, List.setIfInBounds_toArray, List.set_cons_zero, List.set_cons_succ])
  refine AnyH.take (fuel := 40) (i := 6) (v := .pointer (some ⟨bo, 6, none⟩)) rfl rfl (by kernel_rfl) (by kernel_rfl) (by kernel_rfl) (fun _ _ _ h => h) ⟨.inl ⟨by kernel_rfl, fun V hV => by obtain ⟨s2, s3, s4, s5, s6, s7, s8, s9⟩ := hV; go_simp⟩, fun _ => rfl⟩ hs1 ?_
  (try simp only [Act.put, List.setIfInBounds_toArray, List.set_cons_zero, List.set_cons_succ])
  refine AnyH.take (fuel := 39) (i := 7) (v := .bool false) rfl rfl (by kernel_rfl) (by kernel_rfl) (by kernel_rfl) (fun _ _ _ h => h) ⟨.inl ⟨by kernel_rfl, fun V hV => by obtain ⟨s2, s3, s4, s5, s6, s7, s8, s9⟩ := hV; go_simp⟩, fun _ => rfl⟩ hs1 ?_
  (try simp only [Act.put, List.setIfInBounds_toArray, List.set_cons_zero, List.set_cons_succ])
  refine AnyH.take (fuel := 38) (i := 8) (v := .bool true) rfl rfl (by kernel_rfl) (by kernel_rfl) (by kernel_rfl) (fun _ _ _ h => h) ⟨.inl ⟨by kernel_rfl, fun V hV => by obtain ⟨s2, s3, s4, s5, s6, s7, s8, s9⟩ := hV; go_simp⟩, fun _ => rfl⟩ hs1 ?_
  (try simp only [Act.put, List.setIfInBounds_toArray, List.set_cons_zero, List.set_cons_succ])
  refine AnyH.take (fuel := 37) (i := 9) (v := .bool true) rfl rfl (by kernel_rfl) (by kernel_rfl) (by kernel_rfl) (fun _ _ _ h => h) ⟨.inl ⟨by kernel_rfl, fun V hV => by obtain ⟨s2, s3, s4, s5, s6, s7, s8, s9⟩ := hV; go_simp⟩, fun _ => rfl⟩ hs1 ?_
  (try simp only [Act.put, List.setIfInBounds_toArray, List.set_cons_zero, List.set_cons_succ])
  refine AnyH.take (fuel := 36) (i := 10) (v := undef) rfl rfl (by kernel_rfl) (by kernel_rfl) (by kernel_rfl) (fun _ _ _ h => h) ⟨.inr ⟨by kernel_rfl, rfl⟩, fun _ => by kernel_rfl⟩ hs1 ?_
  (try simp only [Act.put, List.setIfInBounds_toArray, List.set_cons_zero, List.set_cons_succ])
  refine AnyH.take (fuel := 35) (i := 11) (v := undef) rfl rfl (by kernel_rfl) (by kernel_rfl) (by kernel_rfl) (fun _ _ _ h => h) ⟨.inr ⟨by kernel_rfl, rfl⟩, fun _ => by kernel_rfl⟩ hs1 ?_
  (try simp only [Act.put, List.setIfInBounds_toArray, List.set_cons_zero, List.set_cons_succ])
  refine AnyH.take (fuel := 34) (i := 12) (v := undef) rfl rfl (by kernel_rfl) (by kernel_rfl) (by kernel_rfl) (fun _ _ _ h => h) ⟨.inr ⟨by kernel_rfl, rfl⟩, fun _ => by kernel_rfl⟩ hs1 ?_
  (try simp only [Act.put, List.setIfInBounds_toArray, List.set_cons_zero, List.set_cons_succ])
  refine AnyH.take (fuel := 33) (i := 13) (v := .bool true) rfl rfl (by kernel_rfl) (by kernel_rfl) (by kernel_rfl) (fun _ _ _ h => h) ⟨.inl ⟨by kernel_rfl, fun V hV => by obtain ⟨s2, s3, s4, s5, s6, s7, s8, s9⟩ := hV; go_simp⟩, fun _ => rfl⟩ hs1 ?_
  (try simp only [Act.put, List.setIfInBounds_toArray, List.set_cons_zero, List.set_cons_succ])
  refine AnyH.take (fuel := 32) (i := 14) (v := .bool true) rfl rfl (by kernel_rfl) (by kernel_rfl) (by kernel_rfl) (fun _ _ _ h => h) ⟨.inl ⟨by kernel_rfl, fun V hV => by obtain ⟨s2, s3, s4, s5, s6, s7, s8, s9⟩ := hV; go_simp⟩, fun _ => rfl⟩ hs1 ?_
  (try simp only [Act.put, List.setIfInBounds_toArray, List.set_cons_zero, List.set_cons_succ])
  refine AnyH.take (fuel := 31) (i := 15) (v := .bool true) rfl rfl (by kernel_rfl) (by kernel_rfl) (by kernel_rfl) (fun _ _ _ h => h) ⟨.inl ⟨by kernel_rfl, fun V hV => by obtain ⟨s2, s3, s4, s5, s6, s7, s8, s9⟩ := hV; go_simp⟩, fun _ => rfl⟩ hs1 ?_
  (try simp only [Act.put, List.setIfInBounds_toArray, List.set_cons_zero, List.set_cons_succ])
  refine AnyH.take (fuel := 30) (i := 16) (v := .pointer (some ⟨bo, 2, none⟩)) rfl rfl (by kernel_rfl) (by kernel_rfl) (by kernel_rfl) (fun _ _ _ h => h) ⟨.inl ⟨by kernel_rfl, fun V hV => by obtain ⟨s2, s3, s4, s5, s6, s7, s8, s9⟩ := hV; go_simp⟩, fun _ => rfl⟩ hs1 ?_
  (try simp only [Act.put, List.setIfInBounds_toArray, List.set_cons_zero, List.set_cons_succ])
  refine AnyH.take (fuel := 29) (i := 17) (v := .int .i64 base) rfl rfl (by kernel_rfl) (by kernel_rfl) (by kernel_rfl) (fun _ _ _ h => h) ⟨.inl ⟨by kernel_rfl, fun V hV => by obtain ⟨s2, s3, s4, s5, s6, s7, s8, s9⟩ := hV; go_simp⟩, fun _ => rfl⟩ hs1 ?_
  (try simp only [Act.put, List.setIfInBounds_toArray, List.set_cons_zero, List.set_cons_succ])
  refine AnyH.take (fuel := 28) (i := 18) (v := .bool true) rfl rfl (by kernel_rfl) (by kernel_rfl) (by kernel_rfl) (fun _ _ _ h => h) ⟨.inl ⟨by kernel_rfl, fun V hV => by obtain ⟨s2, s3, s4, s5, s6, s7, s8, s9⟩ := hV; go_simp⟩, fun _ => rfl⟩ hs1 ?_
  (try simp only [Act.put, List.setIfInBounds_toArray, List.set_cons_zero, List.set_cons_succ])
  refine AnyH.take (fuel := 27) (i := 19) (v := .bool true) rfl rfl (by kernel_rfl) (by kernel_rfl) (by kernel_rfl) (fun _ _ _ h => h) ⟨.inl ⟨by kernel_rfl, fun V hV => by obtain ⟨s2, s3, s4, s5, s6, s7, s8, s9⟩ := hV; go_simp⟩, fun _ => rfl⟩ hs1 ?_
  (try simp only [Act.put, List.setIfInBounds_toArray, List.set_cons_zero, List.set_cons_succ])
  refine AnyH.take (fuel := 26) (i := 20) (v := undef) rfl rfl (by kernel_rfl) (by kernel_rfl) (by kernel_rfl) (fun _ _ _ h => h) ⟨.inr ⟨by kernel_rfl, rfl⟩, fun _ => by kernel_rfl⟩ hs1 ?_
  (try simp only [Act.put, List.setIfInBounds_toArray, List.set_cons_zero, List.set_cons_succ])
  refine AnyH.take (fuel := 25) (i := 21) (v := undef) rfl rfl (by kernel_rfl) (by kernel_rfl) (by kernel_rfl) (fun _ _ _ h => h) ⟨.inr ⟨by kernel_rfl, rfl⟩, fun _ => by kernel_rfl⟩ hs1 ?_
  (try simp only [Act.put, List.setIfInBounds_toArray, List.set_cons_zero, List.set_cons_succ])
  refine AnyH.take (fuel := 24) (i := 22) (v := undef) rfl rfl (by kernel_rfl) (by kernel_rfl) (by kernel_rfl) (fun _ _ _ h => h) ⟨.inr ⟨by kernel_rfl, rfl⟩, fun _ => by kernel_rfl⟩ hs1 ?_
  (try simp only [Act.put, List.setIfInBounds_toArray, List.set_cons_zero, List.set_cons_succ])
  refine AnyH.take (fuel := 23) (i := 23) (v := undef) rfl rfl (by kernel_rfl) (by kernel_rfl) (by kernel_rfl) (fun _ _ _ h => h) ⟨.inr ⟨by kernel_rfl, rfl⟩, fun _ => by kernel_rfl⟩ hs1 ?_
  (try simp only [Act.put, List.setIfInBounds_toArray, List.set_cons_zero, List.set_cons_succ])
  refine AnyH.take (fuel := 22) (i := 24) (v := undef) rfl rfl (by kernel_rfl) (by kernel_rfl) (by kernel_rfl) (fun _ _ _ h => h) ⟨.inr ⟨by kernel_rfl, rfl⟩, fun _ => by kernel_rfl⟩ hs1 ?_
  (try simp only [Act.put, List.setIfInBounds_toArray, List.set_cons_zero, List.set_cons_succ])
  refine AnyH.take (fuel := 21) (i := 25) (v := undef) rfl rfl (by kernel_rfl) (by kernel_rfl) (by kernel_rfl) (fun _ _ _ h => h) ⟨.inr ⟨by kernel_rfl, rfl⟩, fun _ => by kernel_rfl⟩ hs1 ?_
  (try simp only [Act.put, List.setIfInBounds_toArray, List.set_cons_zero, List.set_cons_succ])
  refine AnyH.take (fuel := 20) (i := 26) (v := undef) rfl rfl (by kernel_rfl) (by kernel_rfl) (by kernel_rfl) (fun _ _ _ h => h) ⟨.inr ⟨by kernel_rfl, rfl⟩, fun _ => by kernel_rfl⟩ hs1 ?_
  (try simp only [Act.put, List.setIfInBounds_toArray, List.set_cons_zero, List.set_cons_succ])
  refine AnyH.take (fuel := 19) (i := 27) (v := .bool true) rfl rfl (by kernel_rfl) (by kernel_rfl) (by kernel_rfl) (fun _ _ _ h => h) ⟨.inl ⟨by kernel_rfl, fun V hV => by obtain ⟨s2, s3, s4, s5, s6, s7, s8, s9⟩ := hV; go_simp⟩, fun _ => rfl⟩ hs1 ?_
  (try simp only [Act.put, List.setIfInBounds_toArray, List.set_cons_zero, List.set_cons_succ])
  refine AnyH.take (fuel := 18) (i := 28) (v := .bool true) rfl rfl (by kernel_rfl) (by kernel_rfl) (by kernel_rfl) (fun _ _ _ h => h) ⟨.inl ⟨by kernel_rfl, fun V hV => by obtain ⟨s2, s3, s4, s5, s6, s7, s8, s9⟩ := hV; go_simp⟩, fun _ => rfl⟩ hs1 ?_
  (try simp only [Act.put, List.setIfInBounds_toArray, List.set_cons_zero, List.set_cons_succ])
  refine AnyH.take (fuel := 17) (i := 29) (v := .bool true) rfl rfl (by kernel_rfl) (by kernel_rfl) (by kernel_rfl) (fun _ _ _ h => h) ⟨.inl ⟨by kernel_rfl, fun V hV => by obtain ⟨s2, s3, s4, s5, s6, s7, s8, s9⟩ := hV; go_simp⟩, fun _ => rfl⟩ hs1 ?_
  (try simp only [Act.put, List.setIfInBounds_toArray, List.set_cons_zero, List.set_cons_succ])
  refine AnyH.take (fuel := 16) (i := 30) (v := .pointer (some ⟨bo, 3, none⟩)) rfl rfl (by kernel_rfl) (by kernel_rfl) (by kernel_rfl) (fun _ _ _ h => h) ⟨.inl ⟨by kernel_rfl, fun V hV => by obtain ⟨s2, s3, s4, s5, s6, s7, s8, s9⟩ := hV; go_simp⟩, fun _ => rfl⟩ hs1 ?_
  (try simp only [Act.put, List.setIfInBounds_toArray, List.set_cons_zero, List.set_cons_succ])
  refine AnyH.take (fuel := 15) (i := 31) (v := .int .i64 (ji : Int)) rfl rfl (by kernel_rfl) (by kernel_rfl) (by kernel_rfl) (fun _ _ _ h => h) ⟨.inl ⟨by kernel_rfl, fun V hV => by obtain ⟨s2, s3, s4, s5, s6, s7, s8, s9⟩ := hV; go_simp⟩, fun _ => rfl⟩ hs1 ?_
  (try simp only [Act.put, List.setIfInBounds_toArray, List.set_cons_zero, List.set_cons_succ])
  refine AnyH.take (fuel := 14) (i := 32) (v := .bool false) rfl rfl (by kernel_rfl) (by kernel_rfl) (by kernel_rfl) (fun _ _ _ h => h) ⟨.inl ⟨by kernel_rfl, fun V hV => by obtain ⟨s2, s3, s4, s5, s6, s7, s8, s9⟩ := hV; go_simp⟩, fun _ => rfl⟩ hs1 ?_
  (try simp only [Act.put, List.setIfInBounds_toArray, List.set_cons_zero, List.set_cons_succ])
  refine AnyH.take (fuel := 13) (i := 33) (v := .bool false) rfl rfl (by kernel_rfl) (by kernel_rfl) (by kernel_rfl) (fun _ _ _ h => h) ⟨.inl ⟨by kernel_rfl, fun V hV => by obtain ⟨s2, s3, s4, s5, s6, s7, s8, s9⟩ := hV; go_simp⟩, fun _ => rfl⟩ hs1 ?_
  (try simp only [Act.put, List.setIfInBounds_toArray, List.set_cons_zero, List.set_cons_succ])
  refine AnyH.take (fuel := 12) (i := 34) (v := .func (.yield lp) #[] #[]) rfl rfl (by kernel_rfl) (by kernel_rfl) (by kernel_rfl) (fun _ _ _ h => h) ⟨.inl ⟨by kernel_rfl, fun V hV => by obtain ⟨s2, s3, s4, s5, s6, s7, s8, s9⟩ := hV; go_simp⟩, fun _ => rfl⟩ hs1 ?_
  (try simp only [Act.put, List.setIfInBounds_toArray, List.set_cons_zero, List.set_cons_succ])
  refine AnyH.take (fuel := 11) (i := 35) (v := .pointer (some ⟨bo, 3, none⟩)) rfl rfl (by kernel_rfl) (by kernel_rfl) (by kernel_rfl) (fun _ _ _ h => h) ⟨.inl ⟨by kernel_rfl, fun V hV => by obtain ⟨s2, s3, s4, s5, s6, s7, s8, s9⟩ := hV; go_simp⟩, fun _ => rfl⟩ hs1 ?_
  (try simp only [Act.put, List.setIfInBounds_toArray, List.set_cons_zero, List.set_cons_succ])
  refine AnyH.take (fuel := 10) (i := 36) (v := .int .i64 (ji : Int)) rfl rfl (by kernel_rfl) (by kernel_rfl) (by kernel_rfl) (fun _ _ _ h => h) ⟨.inl ⟨by kernel_rfl, fun V hV => by obtain ⟨s2, s3, s4, s5, s6, s7, s8, s9⟩ := hV; go_simp⟩, fun _ => rfl⟩ hs1 ?_
  (try simp only [Act.put, List.setIfInBounds_toArray, List.set_cons_zero, List.set_cons_succ])
  refine AnyH.take (fuel := 9) (i := 37) (v := .pointer (some ⟨bc, 0, none⟩)) rfl rfl (by kernel_rfl) (by kernel_rfl) (by kernel_rfl) (fun _ _ _ h => h) ⟨.inl ⟨by kernel_rfl, fun V hV => by obtain ⟨s2, s3, s4, s5, s6, s7, s8, s9⟩ := hV; go_simp⟩, fun _ => rfl⟩ hs1 ?_
  (try simp only [Act.put, List.setIfInBounds_toArray, List.set_cons_zero, List.set_cons_succ])
  refine AnyH.take (fuel := 8) (i := 38) (v := .pointer (some ⟨bc, ji, none⟩)) rfl rfl (by kernel_rfl) (by kernel_rfl) (by kernel_rfl) (fun _ _ _ h => h) ⟨.inl ⟨by kernel_rfl, fun V hV => by obtain ⟨s2, s3, s4, s5, s6, s7, s8, s9⟩ := hV; go_simp⟩, fun _ => rfl⟩ hs1 ?_
  (try simp only [Act.put, List.setIfInBounds_toArray, List.set_cons_zero, List.set_cons_succ])
  refine AnyH.take (fuel := 7) (i := 39) (v := .int .u64 xi) rfl rfl (by kernel_rfl) (by kernel_rfl) (by kernel_rfl) (fun _ _ _ h => h) ⟨.inl ⟨by kernel_rfl, fun V hV => by obtain ⟨s2, s3, s4, s5, s6, s7, s8, s9⟩ := hV; replace s9 := s9 (Int.natCast_nonneg _); rw [Int.toNat_natCast] at s9; go_simp⟩, fun _ => rfl⟩ hs1 ?_
  (try simp only [Act.put, List.setIfInBounds_toArray, List.set_cons_zero, List.set_cons_succ])
  refine AnyH.take (fuel := 6) (i := 40) (v := .pointer (some ⟨bo, 4, none⟩)) rfl rfl (by kernel_rfl) (by kernel_rfl) (by kernel_rfl) (fun _ _ _ h => h) ⟨.inl ⟨by kernel_rfl, fun V hV => by obtain ⟨s2, s3, s4, s5, s6, s7, s8, s9⟩ := hV; go_simp⟩, fun _ => rfl⟩ hs1 ?_
  (try simp only [Act.put, List.setIfInBounds_toArray, List.set_cons_zero, List.set_cons_succ])
  refine AnyH.take (fuel := 5) (i := 41) (v := .int .i64 sc) rfl rfl (by kernel_rfl) (by kernel_rfl) (by kernel_rfl) (fun _ _ _ h => h) ⟨.inl ⟨by kernel_rfl, fun V hV => by obtain ⟨s2, s3, s4, s5, s6, s7, s8, s9⟩ := hV; go_simp⟩, fun _ => rfl⟩ hs1 ?_
  (try simp only [Act.put, List.setIfInBounds_toArray, List.set_cons_zero, List.set_cons_succ])
  refine AnyH.take (fuel := 4) (i := 42) (v := .int .u64 (IntKind.u64.wrap sc)) rfl rfl (by kernel_rfl) (by kernel_rfl) (by kernel_rfl) (fun _ _ _ h => h) ⟨.inl ⟨by kernel_rfl, fun V hV => by obtain ⟨s2, s3, s4, s5, s6, s7, s8, s9⟩ := hV; go_simp⟩, fun _ => rfl⟩ hs1 ?_
  (try simp only [Act.put, List.setIfInBounds_toArray, List.set_cons_zero, List.set_cons_succ])
  refine AnyH.take (fuel := 3) (i := 43) (v := .int .u64 pr) rfl rfl (by kernel_rfl) (by kernel_rfl) (by kernel_rfl) (fun _ _ _ h => h) ⟨.inl ⟨by kernel_rfl, fun V hV => by obtain ⟨s2, s3, s4, s5, s6, s7, s8, s9⟩ := hV; go_simp⟩, fun _ => rfl⟩ hs1 ?_
  (try simp only [Act.put, List.setIfInBounds_toArray, List.set_cons_zero, List.set_cons_succ])
  refine AnyH.one (fuel := 2) (i := 44) rfl (by kernel_rfl) (by kernel_rfl) ?_
  refine ⟨fun _ _ => trivial, ?_⟩
  go_simp
  refine ⟨rfl, hr.mono ?_⟩
  rintro e W2 ⟨rfl, hJ', hk'⟩
  have HJ2 : Aside0 (J [d, pr] W2) := ⟨hJ'⟩
  have HK2 : Aside0 (Keeps (fun j => Z j ∨ W.heap.size ≤ j) W W2) := ⟨HK1.out.trans hk'⟩
  have hs2 := HHS.out _ HK2.out
  clear hJ' hk' hr hy hs1
  refine ⟨hs2, ?_⟩
  (try simp only [Act.put, List.setIfInBounds_toArray, List.set_cons_zero, List.set_cons_succ])
  refine AnyH.take (fuel := 1) (i := 45) (v := .bool true) rfl rfl (by kernel_rfl) (by kernel_rfl) (by kernel_rfl) (fun _ _ _ h => h) ⟨.inl ⟨by kernel_rfl, fun V hV => by obtain ⟨s2, s3, s4, s5, s6, s7, s8, s9⟩ := hV; go_simp⟩, fun _ => rfl⟩ hs2 ?_
  (try simp only [Act.put, List.setIfInBounds_toArray, List.set_cons_zero, List.set_cons_succ])
  refine AnyH.take (fuel := 0) (i := 46) (v := .bool true) rfl rfl (by kernel_rfl) (by kernel_rfl) (by kernel_rfl) (fun _ _ _ h => h) ⟨.inl ⟨by kernel_rfl, fun V hV => by obtain ⟨s2, s3, s4, s5, s6, s7, s8, s9⟩ := hV; go_simp⟩, fun _ => rfl⟩ hs2 ?_
  (try simp only [Act.put, List.setIfInBounds_toArray, List.set_cons_zero, List.set_cons_succ])
  refine AnyH.done (by kernel_rfl) ?_ _
  refine bodyPost_end (results_none rfl _ _ _) rfl ⟨⟨_, rfl⟩, HJ2.out⟩
end Go.Proofs.YtpmclnlgipphmaaDoor.B
