/- The parts of an address, one by one. The parts of an address, one by one. An operand's address. -/
import Derived.Test.YtpmclnlgipphmaaDoorAq9
import Derived.Test.YtpmclnlgipphmaaDoorAq10
import Derived.Test.YtpmclnlgipphmaaDoorAq4
namespace Go.Proofs.YtpmclnlgipphmaaDoor.B
open Go.RowKit Go.Proofs.YtpmclnlgipphmaaDoorW.PrintWords Go.Proofs.YtpmclnlgipphmaaDoorW.PrintMore Go.RF
set_option linter.unusedVariables false
set_option linter.unusedSimpArgs false
attribute [local go_sem] Oper.semAt_some
set_option maxHeartbeats 8000000 in
set_option maxRecDepth 100000 in
theorem parts_bi (bo bn bc : Nat) (k R sc dp im nx d xb xi pr : Int) (jb ji : Nat) (cs : Array Value) (W : World) (Z : Nat → Prop) (hbase : jb < 16) (hidx : ji < 16) (hd : IntKind.u64.wrap dp = d) (hpr : IntKind.u64.wrap (xi * IntKind.u64.wrap sc) = pr) (hxb : 0 ≤ (jb : Int) → cs[((jb : Int)).toNat]? = some (.int .u64 xb)) (hxi : 0 ≤ (ji : Int) → cs[((ji : Int)).toNat]? = some (.int .u64 xi))
    (ho : W.heap[bo]? = some (.cells #[.int .u8 k, .int .i64 R, .int .i64 (jb : Int), .int .i64 (ji : Int), .int .i64 sc, .int .i64 dp, .bool false, .int .i64 im] 36 (0, 0))) (hn : W.heap[bn]? = some (.cells #[.int .u64 nx] 22 (0, 0))) (hc : W.heap[bc]? = some (.cells cs 29 (0, 0))) (hZ : ∀ j, Z j → j ≠ bo ∧ j ≠ bn ∧ j ≠ bc) :
    IterT Tryd.prog 23 #[.pointer (some ⟨bo, 0, none⟩), .pointer (some ⟨bn, 0, none⟩), .pointer (some ⟨bc, 0, none⟩)] encU (fun _ => False) Z [d, xb, pr] W := by
  intro lp J hJ hY h0
  refine callsIn_wide.2 ?_
  simp only [List.append_toArray, List.cons_append, List.nil_append]
  have HY := Aside0.mk hY
  have HJ0 : Aside0 (J [] W.drew) := ⟨hJ _ _ _ h0 (Keeps.refl _ _).drew⟩
  have HS : ∀ V, Keeps (fun j => Z j ∨ W.heap.size ≤ j) W V → PtS bo bn bc (jb : Int) (ji : Int) sc dp nx xb xi false V := fun V hk => by
    have no : ∀ {j}, j < W.heap.size → (¬ Z j) → ¬ (Z j ∨ W.heap.size ≤ j) := fun h1 h2 h => h.elim h2 (fun h => absurd h1 (Nat.not_lt.2 h))
    obtain ⟨o0, o1, o2, o3, o4, o5, o6, o7⟩ := rows8 (hk.at_ ho (no (blk_lt ho) (fun h => (hZ _ h).1 rfl)))
    have n0 := (cell_of_block (hk.at_ hn (no (blk_lt hn) (fun h => (hZ _ h).2.1 rfl)))).1
    have c0 := hk.at_ hc (no (blk_lt hc) (fun h => (hZ _ h).2.2 rfl))
    exact ⟨o2, o3, o4, o5, o6, n0, fun h => by rw [bC_ c0]; exact hxb h, fun h => by rw [bC_ c0]; exact hxi h⟩
  have hk0 : Keeps (fun j => Z j ∨ W.heap.size ≤ j) W W.drew := (Keeps.refl _ _).drew
  have HK0 := Aside0.mk hk0
  have HHS := Aside0.mk HS
  clear hY h0 ho hn hc hZ hxb hxi HS hk0
  have eb : decide ((jb : Int) < 0) = false := decide_eq_false (by omega)
  have eb1 : (jb : Int) < 16 := by omega
  have ei : decide ((ji : Int) < 0) = false := decide_eq_false (by omega)
  have ei1 : (ji : Int) < 16 := by omega
  clear hbase hidx
  obtain ⟨yf, yt, ya, yb, hy, hr⟩ := HY.out [] d [xb, pr] W.drew rfl HJ0.out
  simp only [encU] at hy
  go_enter Tryd.func23, Tryd.ntmps23
  refine (wpIn_wide (n := 0)).1 ?_
  refine AnyH.start (S := PtS bo bn bc (jb : Int) (ji : Int) sc dp nx xb xi false) (by kernel_rfl) rfl ?_
  show AnyH _ _ _ _ _ _ _ 47 _ _ _
  have hs0 := HHS.out _ HK0.out
  refine AnyH.take (fuel := 46) (i := 0) (v := .func (.yield lp) #[] #[]) rfl rfl (by kernel_rfl) (by kernel_rfl) (by kernel_rfl) (fun _ _ _ h => h) ⟨.inl ⟨by kernel_rfl, fun V hV => by obtain ⟨s2, s3, s4, s5, s6, s7, s8, s9⟩ := hV; go_simp⟩, fun _ => rfl⟩ hs0 ?_
  (try simp only [Act.put, List.setIfInBounds_toArray, List.set_cons_zero, List.set_cons_succ])
  refine AnyH.take (fuel := 45) (i := 1) (v := .pointer (some ⟨bo, 5, none⟩)) rfl rfl (by kernel_rfl) (by kernel_rfl) (by kernel_rfl) (fun _ _ _ h => h) ⟨.inl ⟨by kernel_rfl, fun V hV => by obtain ⟨s2, s3, s4, s5, s6, s7, s8, s9⟩ := hV; go_simp⟩, fun _ => rfl⟩ hs0 ?_
  (try simp only [Act.put, List.setIfInBounds_toArray, List.set_cons_zero, List.set_cons_succ])
  refine AnyH.take (fuel := 44) (i := 2) (v := .int .i64 dp) rfl rfl (by kernel_rfl) (by kernel_rfl) (by kernel_rfl) (fun _ _ _ h => h) ⟨.inl ⟨by kernel_rfl, fun V hV => by obtain ⟨s2, s3, s4, s5, s6, s7, s8, s9⟩ := hV; go_simp⟩, fun _ => rfl⟩ hs0 ?_
  (try simp only [Act.put, List.setIfInBounds_toArray, List.set_cons_zero, List.set_cons_succ])
  refine AnyH.take (fuel := 43) (i := 3) (v := .int .u64 d) rfl rfl (by kernel_rfl) (by kernel_rfl) (by kernel_rfl) (fun _ _ _ h => h) ⟨.inl ⟨by kernel_rfl, fun V hV => by obtain ⟨s2, s3, s4, s5, s6, s7, s8, s9⟩ := hV; go_simp⟩, fun _ => rfl⟩ hs0 ?_
  (try simp only [Act.put, List.setIfInBounds_toArray, List.set_cons_zero, List.set_cons_succ])
  refine AnyH.one (fuel := 42) (i := 4) rfl (by kernel_rfl) (by kernel_rfl) ?_
  refine ⟨fun _ _ => trivial, ?_⟩
  go_simp
  refine ⟨rfl, hr.mono ?_⟩
  rintro e W1 ⟨rfl, hJ', hk'⟩
  have HJ1 : Aside0 (J [d] W1) := ⟨hJ'⟩
  have HK1 : Aside0 (Keeps (fun j => Z j ∨ W.heap.size ≤ j) W W1) := ⟨HK0.out.trans hk'⟩
  have hs1 := HHS.out _ HK1.out
  clear hJ' hk' hr hy hs0
  obtain ⟨yf1, yt1, ya1, yb1, hy, hr⟩ := HY.out [d] xb [pr] W1 rfl HJ1.out
  simp only [encU] at hy
  refine ⟨hs1, ?_⟩
  (try simp only [Act.put, List.setIfInBounds_toArray, List.set_cons_zero, List.set_cons_succ])
  refine AnyH.take (fuel := 41) (i := 5) (v := .bool true) rfl rfl (by kernel_rfl) (by kernel_rfl) (by kernel_rfl) (fun _ _ _ h => h) ⟨.inl ⟨by kernel_rfl, fun V hV => by obtain ⟨s2, s3, s4, s5, s6, s7, s8, s9⟩ := hV; go_simp⟩, fun _ => rfl⟩ hs1 ?_
  (try simp only [Act.put, List.setIfInBounds_toArray, List.set_cons_zero, List.set_cons_succ])
  refine AnyH.take (fuel := 40) (i := 6) (v := .pointer (some ⟨bo, 6, none⟩)) rfl rfl (by kernel_rfl) (by kernel_rfl) (by kernel_rfl) (fun _ _ _ h => h) ⟨.inl ⟨by kernel_rfl, fun V hV => by obtain ⟨s2, s3, s4, s5, s6, s7, s8, s9⟩ := hV; go_simp⟩, fun _ => rfl⟩ hs1 ?_
  (try simp only [Act.put, List.setIfInBounds_toArray, List.set_cons_zero, List.set_cons_succ])
  refine AnyH.take (fuel := 39) (i := 7) (v := .bool false) rfl rfl (by kernel_rfl) (by kernel_rfl) (by kernel_rfl) (fun _ _ _ h => h) ⟨.inl ⟨by kernel_rfl, fun V hV => by obtain ⟨s2, s3, s4, s5, s6, s7, s8, s9⟩ := hV; go_simp⟩, fun _ => rfl⟩ hs1 ?_
  (try simp only [Act.put, List.setIfInBounds_toArray, List.set_cons_zero, List.set_cons_succ])
  refine AnyH.take (fuel := 38) (i := 8) (v := .bool true) rfl rfl (by kernel_rfl) (by kernel_rfl) (by kernel_rfl) (fun _ _ _ h => h) ⟨.inl ⟨by kernel_rfl, fun V hV => by obtain ⟨s2, s3, s4, s5, s6, s7, s8, s9⟩ := hV; go_simp⟩, fun _ => rfl⟩ hs1 ?_
  (try simp only [Act.put, List.setIfInBounds_toArray, List.set_cons_zero, List.set_cons_succ])
  refine AnyH.take (fuel := 37) (i := 9) (v := .bool true) rfl rfl (by kernel_rfl) (by kernel_rfl) (by kernel_rfl) (fun _ _ _ h => h) ⟨.inl ⟨by kernel_rfl, fun V hV => by obtain ⟨s2, s3, s4, s5, s6, s7, s8, s9⟩ := hV; go_simp⟩, fun _ => rfl⟩ hs1 ?_
  (try simp only [Act.put, List.setIfInBounds_toArray, List.set_cons_zero, List.set_cons_succ])
  refine AnyH.take (fuel := 36) (i := 10) (v := undef) rfl rfl (by kernel_rfl) (by kernel_rfl) (by kernel_rfl) (fun _ _ _ h => h) ⟨.inr ⟨by kernel_rfl, rfl⟩, fun _ => by kernel_rfl⟩ hs1 ?_
  (try simp only [Act.put, List.setIfInBounds_toArray, List.set_cons_zero, List.set_cons_succ])
  refine AnyH.take (fuel := 35) (i := 11) (v := undef) rfl rfl (by kernel_rfl) (by kernel_rfl) (by kernel_rfl) (fun _ _ _ h => h) ⟨.inr ⟨by kernel_rfl, rfl⟩, fun _ => by kernel_rfl⟩ hs1 ?_
  (try simp only [Act.put, List.setIfInBounds_toArray, List.set_cons_zero, List.set_cons_succ])
  refine AnyH.take (fuel := 34) (i := 12) (v := undef) rfl rfl (by kernel_rfl) (by kernel_rfl) (by kernel_rfl) (fun _ _ _ h => h) ⟨.inr ⟨by kernel_rfl, rfl⟩, fun _ => by kernel_rfl⟩ hs1 ?_
  (try simp only [Act.put, List.setIfInBounds_toArray, List.set_cons_zero, List.set_cons_succ])
  refine AnyH.take (fuel := 33) (i := 13) (v := .bool true) rfl rfl (by kernel_rfl) (by kernel_rfl) (by kernel_rfl) (fun _ _ _ h => h) ⟨.inl ⟨by kernel_rfl, fun V hV => by obtain ⟨s2, s3, s4, s5, s6, s7, s8, s9⟩ := hV; go_simp⟩, fun _ => rfl⟩ hs1 ?_
  (try simp only [Act.put, List.setIfInBounds_toArray, List.set_cons_zero, List.set_cons_succ])
  refine AnyH.take (fuel := 32) (i := 14) (v := .bool true) rfl rfl (by kernel_rfl) (by kernel_rfl) (by kernel_rfl) (fun _ _ _ h => h) ⟨.inl ⟨by kernel_rfl, fun V hV => by obtain ⟨s2, s3, s4, s5, s6, s7, s8, s9⟩ := hV; go_simp⟩, fun _ => rfl⟩ hs1 ?_
  (try simp only [Act.put, List.setIfInBounds_toArray, List.set_cons_zero, List.set_cons_succ])
  refine AnyH.take (fuel := 31) (i := 15) (v := .bool true) rfl rfl (by kernel_rfl) (by kernel_rfl) (by kernel_rfl) (fun _ _ _ h => h) ⟨.inl ⟨by kernel_rfl, fun V hV => by obtain ⟨s2, s3, s4, s5, s6, s7, s8, s9⟩ := hV; go_simp⟩, fun _ => rfl⟩ hs1 ?_
  (try simp only [Act.put, List.setIfInBounds_toArray, List.set_cons_zero, List.set_cons_succ])
  refine AnyH.take (fuel := 30) (i := 16) (v := .pointer (some ⟨bo, 2, none⟩)) rfl rfl (by kernel_rfl) (by kernel_rfl) (by kernel_rfl) (fun _ _ _ h => h) ⟨.inl ⟨by kernel_rfl, fun V hV => by obtain ⟨s2, s3, s4, s5, s6, s7, s8, s9⟩ := hV; go_simp⟩, fun _ => rfl⟩ hs1 ?_
  (try simp only [Act.put, List.setIfInBounds_toArray, List.set_cons_zero, List.set_cons_succ])
  refine AnyH.take (fuel := 29) (i := 17) (v := .int .i64 (jb : Int)) rfl rfl (by kernel_rfl) (by kernel_rfl) (by kernel_rfl) (fun _ _ _ h => h) ⟨.inl ⟨by kernel_rfl, fun V hV => by obtain ⟨s2, s3, s4, s5, s6, s7, s8, s9⟩ := hV; go_simp⟩, fun _ => rfl⟩ hs1 ?_
  (try simp only [Act.put, List.setIfInBounds_toArray, List.set_cons_zero, List.set_cons_succ])
  refine AnyH.take (fuel := 28) (i := 18) (v := .bool false) rfl rfl (by kernel_rfl) (by kernel_rfl) (by kernel_rfl) (fun _ _ _ h => h) ⟨.inl ⟨by kernel_rfl, fun V hV => by obtain ⟨s2, s3, s4, s5, s6, s7, s8, s9⟩ := hV; go_simp⟩, fun _ => rfl⟩ hs1 ?_
  (try simp only [Act.put, List.setIfInBounds_toArray, List.set_cons_zero, List.set_cons_succ])
  refine AnyH.take (fuel := 27) (i := 19) (v := .bool false) rfl rfl (by kernel_rfl) (by kernel_rfl) (by kernel_rfl) (fun _ _ _ h => h) ⟨.inl ⟨by kernel_rfl, fun V hV => by obtain ⟨s2, s3, s4, s5, s6, s7, s8, s9⟩ := hV; go_simp⟩, fun _ => rfl⟩ hs1 ?_
  (try simp only [Act.put, List.setIfInBounds_toArray, List.set_cons_zero, List.set_cons_succ])
  refine AnyH.take (fuel := 26) (i := 20) (v := .func (.yield lp) #[] #[]) rfl rfl (by kernel_rfl) (by kernel_rfl) (by kernel_rfl) (fun _ _ _ h => h) ⟨.inl ⟨by kernel_rfl, fun V hV => by obtain ⟨s2, s3, s4, s5, s6, s7, s8, s9⟩ := hV; go_simp⟩, fun _ => rfl⟩ hs1 ?_
  (try simp only [Act.put, List.setIfInBounds_toArray, List.set_cons_zero, List.set_cons_succ])
  refine AnyH.take (fuel := 25) (i := 21) (v := .pointer (some ⟨bo, 2, none⟩)) rfl rfl (by kernel_rfl) (by kernel_rfl) (by kernel_rfl) (fun _ _ _ h => h) ⟨.inl ⟨by kernel_rfl, fun V hV => by obtain ⟨s2, s3, s4, s5, s6, s7, s8, s9⟩ := hV; go_simp⟩, fun _ => rfl⟩ hs1 ?_
  (try simp only [Act.put, List.setIfInBounds_toArray, List.set_cons_zero, List.set_cons_succ])
  refine AnyH.take (fuel := 24) (i := 22) (v := .int .i64 (jb : Int)) rfl rfl (by kernel_rfl) (by kernel_rfl) (by kernel_rfl) (fun _ _ _ h => h) ⟨.inl ⟨by kernel_rfl, fun V hV => by obtain ⟨s2, s3, s4, s5, s6, s7, s8, s9⟩ := hV; go_simp⟩, fun _ => rfl⟩ hs1 ?_
  (try simp only [Act.put, List.setIfInBounds_toArray, List.set_cons_zero, List.set_cons_succ])
  refine AnyH.take (fuel := 23) (i := 23) (v := .pointer (some ⟨bc, 0, none⟩)) rfl rfl (by kernel_rfl) (by kernel_rfl) (by kernel_rfl) (fun _ _ _ h => h) ⟨.inl ⟨by kernel_rfl, fun V hV => by obtain ⟨s2, s3, s4, s5, s6, s7, s8, s9⟩ := hV; go_simp⟩, fun _ => rfl⟩ hs1 ?_
  (try simp only [Act.put, List.setIfInBounds_toArray, List.set_cons_zero, List.set_cons_succ])
  refine AnyH.take (fuel := 22) (i := 24) (v := .pointer (some ⟨bc, jb, none⟩)) rfl rfl (by kernel_rfl) (by kernel_rfl) (by kernel_rfl) (fun _ _ _ h => h) ⟨.inl ⟨by kernel_rfl, fun V hV => by obtain ⟨s2, s3, s4, s5, s6, s7, s8, s9⟩ := hV; go_simp⟩, fun _ => rfl⟩ hs1 ?_
  (try simp only [Act.put, List.setIfInBounds_toArray, List.set_cons_zero, List.set_cons_succ])
  refine AnyH.take (fuel := 21) (i := 25) (v := .int .u64 xb) rfl rfl (by kernel_rfl) (by kernel_rfl) (by kernel_rfl) (fun _ _ _ h => h) ⟨.inl ⟨by kernel_rfl, fun V hV => by obtain ⟨s2, s3, s4, s5, s6, s7, s8, s9⟩ := hV; replace s8 := s8 (Int.natCast_nonneg _); rw [Int.toNat_natCast] at s8; go_simp⟩, fun _ => rfl⟩ hs1 ?_
  (try simp only [Act.put, List.setIfInBounds_toArray, List.set_cons_zero, List.set_cons_succ])
  refine AnyH.one (fuel := 20) (i := 26) rfl (by kernel_rfl) (by kernel_rfl) ?_
  refine ⟨fun _ _ => trivial, ?_⟩
  go_simp
  refine ⟨rfl, hr.mono ?_⟩
  rintro e W2 ⟨rfl, hJ', hk'⟩
  have HJ2 : Aside0 (J [d, xb] W2) := ⟨hJ'⟩
  have HK2 : Aside0 (Keeps (fun j => Z j ∨ W.heap.size ≤ j) W W2) := ⟨HK1.out.trans hk'⟩
  have hs2 := HHS.out _ HK2.out
  clear hJ' hk' hr hy hs1
  obtain ⟨yf2, yt2, ya2, yb2, hy, hr⟩ := HY.out [d, xb] pr [] W2 rfl HJ2.out
  simp only [encU] at hy
  refine ⟨hs2, ?_⟩
  (try simp only [Act.put, List.setIfInBounds_toArray, List.set_cons_zero, List.set_cons_succ])
  refine AnyH.take (fuel := 19) (i := 27) (v := .bool true) rfl rfl (by kernel_rfl) (by kernel_rfl) (by kernel_rfl) (fun _ _ _ h => h) ⟨.inl ⟨by kernel_rfl, fun V hV => by obtain ⟨s2, s3, s4, s5, s6, s7, s8, s9⟩ := hV; go_simp⟩, fun _ => rfl⟩ hs2 ?_
  (try simp only [Act.put, List.setIfInBounds_toArray, List.set_cons_zero, List.set_cons_succ])
  refine AnyH.take (fuel := 18) (i := 28) (v := .bool true) rfl rfl (by kernel_rfl) (by kernel_rfl) (by kernel_rfl) (fun _ _ _ h => h) ⟨.inl ⟨by kernel_rfl, fun V hV => by obtain ⟨s2, s3, s4, s5, s6, s7, s8, s9⟩ := hV; go_simp⟩, fun _ => rfl⟩ hs2 ?_
  (try simp only [Act.put, List.setIfInBounds_toArray, List.set_cons_zero, List.set_cons_succ])
  refine AnyH.take (fuel := 17) (i := 29) (v := .bool true) rfl rfl (by kernel_rfl) (by kernel_rfl) (by kernel_rfl) (fun _ _ _ h => h) ⟨.inl ⟨by kernel_rfl, fun V hV => by obtain ⟨s2, s3, s4, s5, s6, s7, s8, s9⟩ := hV; go_simp⟩, fun _ => rfl⟩ hs2 ?_
  (try simp only [Act.put, List.setIfInBounds_toArray, List.set_cons_zero, List.set_cons_succ])
  refine AnyH.take (fuel := 16) (i := 30) (v := .pointer (some ⟨bo, 3, none⟩)) rfl rfl (by kernel_rfl) (by kernel_rfl) (by kernel_rfl) (fun _ _ _ h => h) ⟨.inl ⟨by kernel_rfl, fun V hV => by obtain ⟨s2, s3, s4, s5, s6, s7, s8, s9⟩ := hV; go_simp⟩, fun _ => rfl⟩ hs2 ?_
  (try simp only [Act.put, List.setIfInBounds_toArray, List.set_cons_zero, List.set_cons_succ])
  refine AnyH.take (fuel := 15) (i := 31) (v := .int .i64 (ji : Int)) rfl rfl (by kernel_rfl) (by kernel_rfl) (by kernel_rfl) (fun _ _ _ h => h) ⟨.inl ⟨by kernel_rfl, fun V hV => by obtain ⟨s2, s3, s4, s5, s6, s7, s8, s9⟩ := hV; go_simp⟩, fun _ => rfl⟩ hs2 ?_
  (try simp only [Act.put, List.setIfInBounds_toArray, List.set_cons_zero, List.set_cons_succ])
  refine AnyH.take (fuel := 14) (i := 32) (v := .bool false) rfl rfl (by kernel_rfl) (by kernel_rfl) (by kernel_rfl) (fun _ _ _ h => h) ⟨.inl ⟨by kernel_rfl, fun V hV => by obtain ⟨s2, s3, s4, s5, s6, s7, s8, s9⟩ := hV; go_simp⟩, fun _ => rfl⟩ hs2 ?_
  (try simp only [Act.put, List.setIfInBounds_toArray, List.set_cons_zero, List.set_cons_succ])
  refine AnyH.take (fuel := 13) (i := 33) (v := .bool false) rfl rfl (by kernel_rfl) (by kernel_rfl) (by kernel_rfl) (fun _ _ _ h => h) ⟨.inl ⟨by kernel_rfl, fun V hV => by obtain ⟨s2, s3, s4, s5, s6, s7, s8, s9⟩ := hV; go_simp⟩, fun _ => rfl⟩ hs2 ?_
  (try simp only [Act.put, List.setIfInBounds_toArray, List.set_cons_zero, List.set_cons_succ])
  refine AnyH.take (fuel := 12) (i := 34) (v := .func (.yield lp) #[] #[]) rfl rfl (by kernel_rfl) (by kernel_rfl) (by kernel_rfl) (fun _ _ _ h => h) ⟨.inl ⟨by kernel_rfl, fun V hV => by obtain ⟨s2, s3, s4, s5, s6, s7, s8, s9⟩ := hV; go_simp⟩, fun _ => rfl⟩ hs2 ?_
  (try simp only [Act.put, List.setIfInBounds_toArray, List.set_cons_zero, List.set_cons_succ])
  refine AnyH.take (fuel := 11) (i := 35) (v := .pointer (some ⟨bo, 3, none⟩)) rfl rfl (by kernel_rfl) (by kernel_rfl) (by kernel_rfl) (fun _ _ _ h => h) ⟨.inl ⟨by kernel_rfl, fun V hV => by obtain ⟨s2, s3, s4, s5, s6, s7, s8, s9⟩ := hV; go_simp⟩, fun _ => rfl⟩ hs2 ?_
  (try simp only [Act.put, List.setIfInBounds_toArray, List.set_cons_zero, List.set_cons_succ])
  refine AnyH.take (fuel := 10) (i := 36) (v := .int .i64 (ji : Int)) rfl rfl (by kernel_rfl) (by kernel_rfl) (by kernel_rfl) (fun _ _ _ h => h) ⟨.inl ⟨by kernel_rfl, fun V hV => by obtain ⟨s2, s3, s4, s5, s6, s7, s8, s9⟩ := hV; go_simp⟩, fun _ => rfl⟩ hs2 ?_
  (try simp only [Act.put, List.setIfInBounds_toArray, List.set_cons_zero, List.set_cons_succ])
  refine AnyH.take (fuel := 9) (i := 37) (v := .pointer (some ⟨bc, 0, none⟩)) rfl rfl (by kernel_rfl) (by kernel_rfl) (by kernel_rfl) (fun _ _ _ h => h) ⟨.inl ⟨by kernel_rfl, fun V hV => by obtain ⟨s2, s3, s4, s5, s6, s7, s8, s9⟩ := hV; go_simp⟩, fun _ => rfl⟩ hs2 ?_
  (try simp only [Act.put, List.setIfInBounds_toArray, List.set_cons_zero, List.set_cons_succ])
  refine AnyH.take (fuel := 8) (i := 38) (v := .pointer (some ⟨bc, ji, none⟩)) rfl rfl (by kernel_rfl) (by kernel_rfl) (by kernel_rfl) (fun _ _ _ h => h) ⟨.inl ⟨by kernel_rfl, fun V hV => by obtain ⟨s2, s3, s4, s5, s6, s7, s8, s9⟩ := hV; go_simp⟩, fun _ => rfl⟩ hs2 ?_
  (try simp only [Act.put, List.setIfInBounds_toArray, List.set_cons_zero, List.set_cons_succ])
  refine AnyH.take (fuel := 7) (i := 39) (v := .int .u64 xi) rfl rfl (by kernel_rfl) (by kernel_rfl) (by kernel_rfl) (fun _ _ _ h => h) ⟨.inl ⟨by kernel_rfl, fun V hV => by obtain ⟨s2, s3, s4, s5, s6, s7, s8, s9⟩ := hV; replace s9 := s9 (Int.natCast_nonneg _); rw [Int.toNat_natCast] at s9; go_simp⟩, fun _ => rfl⟩ hs2 ?_
  (try simp only [Act.put, List.setIfInBounds_toArray, List.set_cons_zero, List.set_cons_succ])
  refine AnyH.take (fuel := 6) (i := 40) (v := .pointer (some ⟨bo, 4, none⟩)) rfl rfl (by kernel_rfl) (by kernel_rfl) (by kernel_rfl) (fun _ _ _ h => h) ⟨.inl ⟨by kernel_rfl, fun V hV => by obtain ⟨s2, s3, s4, s5, s6, s7, s8, s9⟩ := hV; go_simp⟩, fun _ => rfl⟩ hs2 ?_
  (try simp only [Act.put, List.setIfInBounds_toArray, List.set_cons_zero, List.set_cons_succ])
  refine AnyH.take (fuel := 5) (i := 41) (v := .int .i64 sc) rfl rfl (by kernel_rfl) (by kernel_rfl) (by kernel_rfl) (fun _ _ _ h => h) ⟨.inl ⟨by kernel_rfl, fun V hV => by obtain ⟨s2, s3, s4, s5, s6, s7, s8, s9⟩ := hV; go_simp⟩, fun _ => rfl⟩ hs2 ?_
  (try simp only [Act.put, List.setIfInBounds_toArray, List.set_cons_zero, List.set_cons_succ])
  refine AnyH.take (fuel := 4) (i := 42) (v := .int .u64 (IntKind.u64.wrap sc)) rfl rfl (by kernel_rfl) (by kernel_rfl) (by kernel_rfl) (fun _ _ _ h => h) ⟨.inl ⟨by kernel_rfl, fun V hV => by obtain ⟨s2, s3, s4, s5, s6, s7, s8, s9⟩ := hV; go_simp⟩, fun _ => rfl⟩ hs2 ?_
  (try simp only [Act.put, List.setIfInBounds_toArray, List.set_cons_zero, List.set_cons_succ])
  refine AnyH.take (fuel := 3) (i := 43) (v := .int .u64 pr) rfl rfl (by kernel_rfl) (by kernel_rfl) (by kernel_rfl) (fun _ _ _ h => h) ⟨.inl ⟨by kernel_rfl, fun V hV => by obtain ⟨s2, s3, s4, s5, s6, s7, s8, s9⟩ := hV; go_simp⟩, fun _ => rfl⟩ hs2 ?_
  (try simp only [Act.put, List.setIfInBounds_toArray, List.set_cons_zero, List.set_cons_succ])
  refine AnyH.one (fuel := 2) (i := 44) rfl (by kernel_rfl) (by kernel_rfl) ?_
  refine ⟨fun _ _ => trivial, ?_⟩
  go_simp
  refine ⟨rfl, hr.mono ?_⟩
  rintro e W3 ⟨rfl, hJ', hk'⟩
  have HJ3 : Aside0 (J [d, xb, pr] W3) := ⟨hJ'⟩
  have HK3 : Aside0 (Keeps (fun j => Z j ∨ W.heap.size ≤ j) W W3) := ⟨HK2.out.trans hk'⟩
  have hs3 := HHS.out _ HK3.out
  clear hJ' hk' hr hy hs2
  refine ⟨hs3, ?_⟩
  (try simp only [Act.put, List.setIfInBounds_toArray, List.set_cons_zero, List.set_cons_succ])
  refine AnyH.take (fuel := 1) (i := 45) (v := .bool true) rfl rfl (by kernel_rfl) (by kernel_rfl) (by kernel_rfl) (fun _ _ _ h => h) ⟨.inl ⟨by kernel_rfl, fun V hV => by obtain ⟨s2, s3, s4, s5, s6, s7, s8, s9⟩ := hV; go_simp⟩, fun _ => rfl⟩ hs3 ?_
  (try simp only [Act.put, List.setIfInBounds_toArray, List.set_cons_zero, List.set_cons_succ])
  refine AnyH.take (fuel := 0) (i := 46) (v := .bool true) rfl rfl (by kernel_rfl) (by kernel_rfl) (by kernel_rfl) (fun _ _ _ h => h) ⟨.inl ⟨by kernel_rfl, fun V hV => by obtain ⟨s2, s3, s4, s5, s6, s7, s8, s9⟩ := hV; go_simp⟩, fun _ => rfl⟩ hs3 ?_
  (try simp only [Act.put, List.setIfInBounds_toArray, List.set_cons_zero, List.set_cons_succ])
  refine AnyH.done (by kernel_rfl) ?_ _
  refine bodyPost_end (results_none rfl _ _ _) rfl ⟨⟨_, rfl⟩, HJ3.out⟩
end Go.Proofs.YtpmclnlgipphmaaDoor.B
namespace Go.Proofs.YtpmclnlgipphmaaDoor.B
open Go.RowKit Go.Proofs.YtpmclnlgipphmaaDoorW.PrintWords Go.Proofs.YtpmclnlgipphmaaDoorW.PrintMore Go.RF
set_option linter.unusedVariables false
set_option linter.unusedSimpArgs false
attribute [local go_sem] Oper.semAt_some
set_option maxHeartbeats 8000000 in
set_option maxRecDepth 100000 in
theorem parts_r (bo bn bc : Nat) (k R base idx sc dp im nx d xb xi pr : Int)  (cs : Array Value) (W : World) (Z : Nat → Prop) (hbase : base < 0) (hidx : idx < 0) (hd : IntKind.u64.wrap dp = d) (hpr : IntKind.u64.wrap (xi * IntKind.u64.wrap sc) = pr) (hxb : 0 ≤ base → cs[(base).toNat]? = some (.int .u64 xb)) (hxi : 0 ≤ idx → cs[(idx).toNat]? = some (.int .u64 xi))
    (ho : W.heap[bo]? = some (.cells #[.int .u8 k, .int .i64 R, .int .i64 base, .int .i64 idx, .int .i64 sc, .int .i64 dp, .bool true, .int .i64 im] 36 (0, 0))) (hn : W.heap[bn]? = some (.cells #[.int .u64 nx] 22 (0, 0))) (hc : W.heap[bc]? = some (.cells cs 29 (0, 0))) (hZ : ∀ j, Z j → j ≠ bo ∧ j ≠ bn ∧ j ≠ bc) :
    IterT Tryd.prog 23 #[.pointer (some ⟨bo, 0, none⟩), .pointer (some ⟨bn, 0, none⟩), .pointer (some ⟨bc, 0, none⟩)] encU (fun _ => False) Z [d, nx] W := by
  intro lp J hJ hY h0
  refine callsIn_wide.2 ?_
  simp only [List.append_toArray, List.cons_append, List.nil_append]
  have HY := Aside0.mk hY
  have HJ0 : Aside0 (J [] W.drew) := ⟨hJ _ _ _ h0 (Keeps.refl _ _).drew⟩
  have HS : ∀ V, Keeps (fun j => Z j ∨ W.heap.size ≤ j) W V → PtS bo bn bc base idx sc dp nx xb xi true V := fun V hk => by
    have no : ∀ {j}, j < W.heap.size → (¬ Z j) → ¬ (Z j ∨ W.heap.size ≤ j) := fun h1 h2 h => h.elim h2 (fun h => absurd h1 (Nat.not_lt.2 h))
    obtain ⟨o0, o1, o2, o3, o4, o5, o6, o7⟩ := rows8 (hk.at_ ho (no (blk_lt ho) (fun h => (hZ _ h).1 rfl)))
    have n0 := (cell_of_block (hk.at_ hn (no (blk_lt hn) (fun h => (hZ _ h).2.1 rfl)))).1
    have c0 := hk.at_ hc (no (blk_lt hc) (fun h => (hZ _ h).2.2 rfl))
    exact ⟨o2, o3, o4, o5, o6, n0, fun h => by rw [bC_ c0]; exact hxb h, fun h => by rw [bC_ c0]; exact hxi h⟩
  have hk0 : Keeps (fun j => Z j ∨ W.heap.size ≤ j) W W.drew := (Keeps.refl _ _).drew
  have HK0 := Aside0.mk hk0
  have HHS := Aside0.mk HS
  clear hY h0 ho hn hc hZ hxb hxi HS hk0
  have eb : decide (base < 0) = true := decide_eq_true hbase
  have ei : decide (idx < 0) = true := decide_eq_true hidx
  clear hbase hidx
  obtain ⟨yf, yt, ya, yb, hy, hr⟩ := HY.out [] d [nx] W.drew rfl HJ0.out
  simp only [encU] at hy
  go_enter Tryd.func23, Tryd.ntmps23
  refine (wpIn_wide (n := 0)).1 ?_
  refine AnyH.start (S := PtS bo bn bc base idx sc dp nx xb xi true) (by kernel_rfl) rfl ?_
  show AnyH _ _ _ _ _ _ _ 47 _ _ _
  have hs0 := HHS.out _ HK0.out
  refine AnyH.take (fuel := 46) (i := 0) (v := .func (.yield lp) #[] #[]) rfl rfl (by kernel_rfl) (by kernel_rfl) (by kernel_rfl) (fun _ _ _ h => h) ⟨.inl ⟨by kernel_rfl, fun V hV => by obtain ⟨s2, s3, s4, s5, s6, s7, s8, s9⟩ := hV; go_simp⟩, fun _ => rfl⟩ hs0 ?_
  (try simp only [Act.put, List.setIfInBounds_toArray, List.set_cons_zero, List.set_cons_succ])
  refine AnyH.take (fuel := 45) (i := 1) (v := .pointer (some ⟨bo, 5, none⟩)) rfl rfl (by kernel_rfl) (by kernel_rfl) (by kernel_rfl) (fun _ _ _ h => h) ⟨.inl ⟨by kernel_rfl, fun V hV => by obtain ⟨s2, s3, s4, s5, s6, s7, s8, s9⟩ := hV; go_simp⟩, fun _ => rfl⟩ hs0 ?_
  (try simp only [Act.put, List.setIfInBounds_toArray, List.set_cons_zero, List.set_cons_succ])
  refine AnyH.take (fuel := 44) (i := 2) (v := .int .i64 dp) rfl rfl (by kernel_rfl) (by kernel_rfl) (by kernel_rfl) (fun _ _ _ h => h) ⟨.inl ⟨by kernel_rfl, fun V hV => by obtain ⟨s2, s3, s4, s5, s6, s7, s8, s9⟩ := hV; go_simp⟩, fun _ => rfl⟩ hs0 ?_
  (try simp only [Act.put, List.setIfInBounds_toArray, List.set_cons_zero, List.set_cons_succ])
  refine AnyH.take (fuel := 43) (i := 3) (v := .int .u64 d) rfl rfl (by kernel_rfl) (by kernel_rfl) (by kernel_rfl) (fun _ _ _ h => h) ⟨.inl ⟨by kernel_rfl, fun V hV => by obtain ⟨s2, s3, s4, s5, s6, s7, s8, s9⟩ := hV; go_simp⟩, fun _ => rfl⟩ hs0 ?_
  (try simp only [Act.put, List.setIfInBounds_toArray, List.set_cons_zero, List.set_cons_succ])
  refine AnyH.one (fuel := 42) (i := 4) rfl (by kernel_rfl) (by kernel_rfl) ?_
  refine ⟨fun _ _ => trivial, ?_⟩
  go_simp
  refine ⟨rfl, hr.mono ?_⟩
  rintro e W1 ⟨rfl, hJ', hk'⟩
  have HJ1 : Aside0 (J [d] W1) := ⟨hJ'⟩
  have HK1 : Aside0 (Keeps (fun j => Z j ∨ W.heap.size ≤ j) W W1) := ⟨HK0.out.trans hk'⟩
  have hs1 := HHS.out _ HK1.out
  clear hJ' hk' hr hy hs0
  obtain ⟨yf1, yt1, ya1, yb1, hy, hr⟩ := HY.out [d] nx [] W1 rfl HJ1.out
  simp only [encU] at hy
  refine ⟨hs1, ?_⟩
  (try simp only [Act.put, List.setIfInBounds_toArray, List.set_cons_zero, List.set_cons_succ])
  refine AnyH.take (fuel := 41) (i := 5) (v := .bool true) rfl rfl (by kernel_rfl) (by kernel_rfl) (by kernel_rfl) (fun _ _ _ h => h) ⟨.inl ⟨by kernel_rfl, fun V hV => by obtain ⟨s2, s3, s4, s5, s6, s7, s8, s9⟩ := hV; go_simp⟩, fun _ => rfl⟩ hs1 ?_
  (try simp only [Act.put, List.setIfInBounds_toArray, List.set_cons_zero, List.set_cons_succ])
  refine AnyH.take (fuel := 40) (i := 6) (v := .pointer (some ⟨bo, 6, none⟩)) rfl rfl (by kernel_rfl) (by kernel_rfl) (by kernel_rfl) (fun _ _ _ h => h) ⟨.inl ⟨by kernel_rfl, fun V hV => by obtain ⟨s2, s3, s4, s5, s6, s7, s8, s9⟩ := hV; go_simp⟩, fun _ => rfl⟩ hs1 ?_
  (try simp only [Act.put, List.setIfInBounds_toArray, List.set_cons_zero, List.set_cons_succ])
  refine AnyH.take (fuel := 39) (i := 7) (v := .bool true) rfl rfl (by kernel_rfl) (by kernel_rfl) (by kernel_rfl) (fun _ _ _ h => h) ⟨.inl ⟨by kernel_rfl, fun V hV => by obtain ⟨s2, s3, s4, s5, s6, s7, s8, s9⟩ := hV; go_simp⟩, fun _ => rfl⟩ hs1 ?_
  (try simp only [Act.put, List.setIfInBounds_toArray, List.set_cons_zero, List.set_cons_succ])
  refine AnyH.take (fuel := 38) (i := 8) (v := .bool false) rfl rfl (by kernel_rfl) (by kernel_rfl) (by kernel_rfl) (fun _ _ _ h => h) ⟨.inl ⟨by kernel_rfl, fun V hV => by obtain ⟨s2, s3, s4, s5, s6, s7, s8, s9⟩ := hV; go_simp⟩, fun _ => rfl⟩ hs1 ?_
  (try simp only [Act.put, List.setIfInBounds_toArray, List.set_cons_zero, List.set_cons_succ])
  refine AnyH.take (fuel := 37) (i := 9) (v := .bool false) rfl rfl (by kernel_rfl) (by kernel_rfl) (by kernel_rfl) (fun _ _ _ h => h) ⟨.inl ⟨by kernel_rfl, fun V hV => by obtain ⟨s2, s3, s4, s5, s6, s7, s8, s9⟩ := hV; go_simp⟩, fun _ => rfl⟩ hs1 ?_
  (try simp only [Act.put, List.setIfInBounds_toArray, List.set_cons_zero, List.set_cons_succ])
  refine AnyH.take (fuel := 36) (i := 10) (v := .func (.yield lp) #[] #[]) rfl rfl (by kernel_rfl) (by kernel_rfl) (by kernel_rfl) (fun _ _ _ h => h) ⟨.inl ⟨by kernel_rfl, fun V hV => by obtain ⟨s2, s3, s4, s5, s6, s7, s8, s9⟩ := hV; go_simp⟩, fun _ => rfl⟩ hs1 ?_
  (try simp only [Act.put, List.setIfInBounds_toArray, List.set_cons_zero, List.set_cons_succ])
  refine AnyH.take (fuel := 35) (i := 11) (v := .int .u64 nx) rfl rfl (by kernel_rfl) (by kernel_rfl) (by kernel_rfl) (fun _ _ _ h => h) ⟨.inl ⟨by kernel_rfl, fun V hV => by obtain ⟨s2, s3, s4, s5, s6, s7, s8, s9⟩ := hV; go_simp⟩, fun _ => rfl⟩ hs1 ?_
  (try simp only [Act.put, List.setIfInBounds_toArray, List.set_cons_zero, List.set_cons_succ])
  refine AnyH.one (fuel := 34) (i := 12) rfl (by kernel_rfl) (by kernel_rfl) ?_
  refine ⟨fun _ _ => trivial, ?_⟩
  go_simp
  refine ⟨rfl, hr.mono ?_⟩
  rintro e W2 ⟨rfl, hJ', hk'⟩
  have HJ2 : Aside0 (J [d, nx] W2) := ⟨hJ'⟩
  have HK2 : Aside0 (Keeps (fun j => Z j ∨ W.heap.size ≤ j) W W2) := ⟨HK1.out.trans hk'⟩
  have hs2 := HHS.out _ HK2.out
  clear hJ' hk' hr hy hs1
  refine ⟨hs2, ?_⟩
  (try simp only [Act.put, List.setIfInBounds_toArray, List.set_cons_zero, List.set_cons_succ])
  refine AnyH.take (fuel := 33) (i := 13) (v := .bool true) rfl rfl (by kernel_rfl) (by kernel_rfl) (by kernel_rfl) (fun _ _ _ h => h) ⟨.inl ⟨by kernel_rfl, fun V hV => by obtain ⟨s2, s3, s4, s5, s6, s7, s8, s9⟩ := hV; go_simp⟩, fun _ => rfl⟩ hs2 ?_
  (try simp only [Act.put, List.setIfInBounds_toArray, List.set_cons_zero, List.set_cons_succ])
  refine AnyH.take (fuel := 32) (i := 14) (v := .bool true) rfl rfl (by kernel_rfl) (by kernel_rfl) (by kernel_rfl) (fun _ _ _ h => h) ⟨.inl ⟨by kernel_rfl, fun V hV => by obtain ⟨s2, s3, s4, s5, s6, s7, s8, s9⟩ := hV; go_simp⟩, fun _ => rfl⟩ hs2 ?_
  (try simp only [Act.put, List.setIfInBounds_toArray, List.set_cons_zero, List.set_cons_succ])
  refine AnyH.take (fuel := 31) (i := 15) (v := .bool true) rfl rfl (by kernel_rfl) (by kernel_rfl) (by kernel_rfl) (fun _ _ _ h => h) ⟨.inl ⟨by kernel_rfl, fun V hV => by obtain ⟨s2, s3, s4, s5, s6, s7, s8, s9⟩ := hV; go_simp⟩, fun _ => rfl⟩ hs2 ?_
  (try simp only [Act.put, List.setIfInBounds_toArray, List.set_cons_zero, List.set_cons_succ])
  refine AnyH.take (fuel := 30) (i := 16) (v := .pointer (some ⟨bo, 2, none⟩)) rfl rfl (by kernel_rfl) (by kernel_rfl) (by kernel_rfl) (fun _ _ _ h => h) ⟨.inl ⟨by kernel_rfl, fun V hV => by obtain ⟨s2, s3, s4, s5, s6, s7, s8, s9⟩ := hV; go_simp⟩, fun _ => rfl⟩ hs2 ?_
  (try simp only [Act.put, List.setIfInBounds_toArray, List.set_cons_zero, List.set_cons_succ])
  refine AnyH.take (fuel := 29) (i := 17) (v := .int .i64 base) rfl rfl (by kernel_rfl) (by kernel_rfl) (by kernel_rfl) (fun _ _ _ h => h) ⟨.inl ⟨by kernel_rfl, fun V hV => by obtain ⟨s2, s3, s4, s5, s6, s7, s8, s9⟩ := hV; go_simp⟩, fun _ => rfl⟩ hs2 ?_
  (try simp only [Act.put, List.setIfInBounds_toArray, List.set_cons_zero, List.set_cons_succ])
  refine AnyH.take (fuel := 28) (i := 18) (v := .bool true) rfl rfl (by kernel_rfl) (by kernel_rfl) (by kernel_rfl) (fun _ _ _ h => h) ⟨.inl ⟨by kernel_rfl, fun V hV => by obtain ⟨s2, s3, s4, s5, s6, s7, s8, s9⟩ := hV; go_simp⟩, fun _ => rfl⟩ hs2 ?_
  (try simp only [Act.put, List.setIfInBounds_toArray, List.set_cons_zero, List.set_cons_succ])
  refine AnyH.take (fuel := 27) (i := 19) (v := .bool true) rfl rfl (by kernel_rfl) (by kernel_rfl) (by kernel_rfl) (fun _ _ _ h => h) ⟨.inl ⟨by kernel_rfl, fun V hV => by obtain ⟨s2, s3, s4, s5, s6, s7, s8, s9⟩ := hV; go_simp⟩, fun _ => rfl⟩ hs2 ?_
  (try simp only [Act.put, List.setIfInBounds_toArray, List.set_cons_zero, List.set_cons_succ])
  refine AnyH.take (fuel := 26) (i := 20) (v := undef) rfl rfl (by kernel_rfl) (by kernel_rfl) (by kernel_rfl) (fun _ _ _ h => h) ⟨.inr ⟨by kernel_rfl, rfl⟩, fun _ => by kernel_rfl⟩ hs2 ?_
  (try simp only [Act.put, List.setIfInBounds_toArray, List.set_cons_zero, List.set_cons_succ])
  refine AnyH.take (fuel := 25) (i := 21) (v := undef) rfl rfl (by kernel_rfl) (by kernel_rfl) (by kernel_rfl) (fun _ _ _ h => h) ⟨.inr ⟨by kernel_rfl, rfl⟩, fun _ => by kernel_rfl⟩ hs2 ?_
  (try simp only [Act.put, List.setIfInBounds_toArray, List.set_cons_zero, List.set_cons_succ])
  refine AnyH.take (fuel := 24) (i := 22) (v := undef) rfl rfl (by kernel_rfl) (by kernel_rfl) (by kernel_rfl) (fun _ _ _ h => h) ⟨.inr ⟨by kernel_rfl, rfl⟩, fun _ => by kernel_rfl⟩ hs2 ?_
  (try simp only [Act.put, List.setIfInBounds_toArray, List.set_cons_zero, List.set_cons_succ])
  refine AnyH.take (fuel := 23) (i := 23) (v := undef) rfl rfl (by kernel_rfl) (by kernel_rfl) (by kernel_rfl) (fun _ _ _ h => h) ⟨.inr ⟨by kernel_rfl, rfl⟩, fun _ => by kernel_rfl⟩ hs2 ?_
  (try simp only [Act.put, List.setIfInBounds_toArray, List.set_cons_zero, List.set_cons_succ])
  refine AnyH.take (fuel := 22) (i := 24) (v := undef) rfl rfl (by kernel_rfl) (by kernel_rfl) (by kernel_rfl) (fun _ _ _ h => h) ⟨.inr ⟨by kernel_rfl, rfl⟩, fun _ => by kernel_rfl⟩ hs2 ?_
  (try simp only [Act.put, List.setIfInBounds_toArray, List.set_cons_zero, List.set_cons_succ])
  refine AnyH.take (fuel := 21) (i := 25) (v := undef) rfl rfl (by kernel_rfl) (by kernel_rfl) (by kernel_rfl) (fun _ _ _ h => h) ⟨.inr ⟨by kernel_rfl, rfl⟩, fun _ => by kernel_rfl⟩ hs2 ?_
  (try simp only [Act.put, List.setIfInBounds_toArray, List.set_cons_zero, List.set_cons_succ])
  refine AnyH.take (fuel := 20) (i := 26) (v := undef) rfl rfl (by kernel_rfl) (by kernel_rfl) (by kernel_rfl) (fun _ _ _ h => h) ⟨.inr ⟨by kernel_rfl, rfl⟩, fun _ => by kernel_rfl⟩ hs2 ?_
  (try simp only [Act.put, List.setIfInBounds_toArray, List.set_cons_zero, List.set_cons_succ])
  refine AnyH.take (fuel := 19) (i := 27) (v := .bool true) rfl rfl (by kernel_rfl) (by kernel_rfl) (by kernel_rfl) (fun _ _ _ h => h) ⟨.inl ⟨by kernel_rfl, fun V hV => by obtain ⟨s2, s3, s4, s5, s6, s7, s8, s9⟩ := hV; go_simp⟩, fun _ => rfl⟩ hs2 ?_
  (try simp only [Act.put, List.setIfInBounds_toArray, List.set_cons_zero, List.set_cons_succ])
  refine AnyH.take (fuel := 18) (i := 28) (v := .bool true) rfl rfl (by kernel_rfl) (by kernel_rfl) (by kernel_rfl) (fun _ _ _ h => h) ⟨.inl ⟨by kernel_rfl, fun V hV => by obtain ⟨s2, s3, s4, s5, s6, s7, s8, s9⟩ := hV; go_simp⟩, fun _ => rfl⟩ hs2 ?_
  (try simp only [Act.put, List.setIfInBounds_toArray, List.set_cons_zero, List.set_cons_succ])
  refine AnyH.take (fuel := 17) (i := 29) (v := .bool true) rfl rfl (by kernel_rfl) (by kernel_rfl) (by kernel_rfl) (fun _ _ _ h => h) ⟨.inl ⟨by kernel_rfl, fun V hV => by obtain ⟨s2, s3, s4, s5, s6, s7, s8, s9⟩ := hV; go_simp⟩, fun _ => rfl⟩ hs2 ?_
  (try simp only [Act.put, List.setIfInBounds_toArray, List.set_cons_zero, List.set_cons_succ])
  refine AnyH.take (fuel := 16) (i := 30) (v := .pointer (some ⟨bo, 3, none⟩)) rfl rfl (by kernel_rfl) (by kernel_rfl) (by kernel_rfl) (fun _ _ _ h => h) ⟨.inl ⟨by kernel_rfl, fun V hV => by obtain ⟨s2, s3, s4, s5, s6, s7, s8, s9⟩ := hV; go_simp⟩, fun _ => rfl⟩ hs2 ?_
  (try simp only [Act.put, List.setIfInBounds_toArray, List.set_cons_zero, List.set_cons_succ])
  refine AnyH.take (fuel := 15) (i := 31) (v := .int .i64 idx) rfl rfl (by kernel_rfl) (by kernel_rfl) (by kernel_rfl) (fun _ _ _ h => h) ⟨.inl ⟨by kernel_rfl, fun V hV => by obtain ⟨s2, s3, s4, s5, s6, s7, s8, s9⟩ := hV; go_simp⟩, fun _ => rfl⟩ hs2 ?_
  (try simp only [Act.put, List.setIfInBounds_toArray, List.set_cons_zero, List.set_cons_succ])
  refine AnyH.take (fuel := 14) (i := 32) (v := .bool true) rfl rfl (by kernel_rfl) (by kernel_rfl) (by kernel_rfl) (fun _ _ _ h => h) ⟨.inl ⟨by kernel_rfl, fun V hV => by obtain ⟨s2, s3, s4, s5, s6, s7, s8, s9⟩ := hV; go_simp⟩, fun _ => rfl⟩ hs2 ?_
  (try simp only [Act.put, List.setIfInBounds_toArray, List.set_cons_zero, List.set_cons_succ])
  refine AnyH.take (fuel := 13) (i := 33) (v := .bool true) rfl rfl (by kernel_rfl) (by kernel_rfl) (by kernel_rfl) (fun _ _ _ h => h) ⟨.inl ⟨by kernel_rfl, fun V hV => by obtain ⟨s2, s3, s4, s5, s6, s7, s8, s9⟩ := hV; go_simp⟩, fun _ => rfl⟩ hs2 ?_
  (try simp only [Act.put, List.setIfInBounds_toArray, List.set_cons_zero, List.set_cons_succ])
  refine AnyH.take (fuel := 12) (i := 34) (v := undef) rfl rfl (by kernel_rfl) (by kernel_rfl) (by kernel_rfl) (fun _ _ _ h => h) ⟨.inr ⟨by kernel_rfl, rfl⟩, fun _ => by kernel_rfl⟩ hs2 ?_
  (try simp only [Act.put, List.setIfInBounds_toArray, List.set_cons_zero, List.set_cons_succ])
  refine AnyH.take (fuel := 11) (i := 35) (v := undef) rfl rfl (by kernel_rfl) (by kernel_rfl) (by kernel_rfl) (fun _ _ _ h => h) ⟨.inr ⟨by kernel_rfl, rfl⟩, fun _ => by kernel_rfl⟩ hs2 ?_
  (try simp only [Act.put, List.setIfInBounds_toArray, List.set_cons_zero, List.set_cons_succ])
  refine AnyH.take (fuel := 10) (i := 36) (v := undef) rfl rfl (by kernel_rfl) (by kernel_rfl) (by kernel_rfl) (fun _ _ _ h => h) ⟨.inr ⟨by kernel_rfl, rfl⟩, fun _ => by kernel_rfl⟩ hs2 ?_
  (try simp only [Act.put, List.setIfInBounds_toArray, List.set_cons_zero, List.set_cons_succ])
  refine AnyH.take (fuel := 9) (i := 37) (v := undef) rfl rfl (by kernel_rfl) (by kernel_rfl) (by kernel_rfl) (fun _ _ _ h => h) ⟨.inr ⟨by kernel_rfl, rfl⟩, fun _ => by kernel_rfl⟩ hs2 ?_
  (try simp only [Act.put, List.setIfInBounds_toArray, List.set_cons_zero, List.set_cons_succ])
  refine AnyH.take (fuel := 8) (i := 38) (v := undef) rfl rfl (by kernel_rfl) (by kernel_rfl) (by kernel_rfl) (fun _ _ _ h => h) ⟨.inr ⟨by kernel_rfl, rfl⟩, fun _ => by kernel_rfl⟩ hs2 ?_
  (try simp only [Act.put, List.setIfInBounds_toArray, List.set_cons_zero, List.set_cons_succ])
  refine AnyH.take (fuel := 7) (i := 39) (v := undef) rfl rfl (by kernel_rfl) (by kernel_rfl) (by kernel_rfl) (fun _ _ _ h => h) ⟨.inr ⟨by kernel_rfl, rfl⟩, fun _ => by kernel_rfl⟩ hs2 ?_
  (try simp only [Act.put, List.setIfInBounds_toArray, List.set_cons_zero, List.set_cons_succ])
  refine AnyH.take (fuel := 6) (i := 40) (v := undef) rfl rfl (by kernel_rfl) (by kernel_rfl) (by kernel_rfl) (fun _ _ _ h => h) ⟨.inr ⟨by kernel_rfl, rfl⟩, fun _ => by kernel_rfl⟩ hs2 ?_
  (try simp only [Act.put, List.setIfInBounds_toArray, List.set_cons_zero, List.set_cons_succ])
  refine AnyH.take (fuel := 5) (i := 41) (v := undef) rfl rfl (by kernel_rfl) (by kernel_rfl) (by kernel_rfl) (fun _ _ _ h => h) ⟨.inr ⟨by kernel_rfl, rfl⟩, fun _ => by kernel_rfl⟩ hs2 ?_
  (try simp only [Act.put, List.setIfInBounds_toArray, List.set_cons_zero, List.set_cons_succ])
  refine AnyH.take (fuel := 4) (i := 42) (v := undef) rfl rfl (by kernel_rfl) (by kernel_rfl) (by kernel_rfl) (fun _ _ _ h => h) ⟨.inr ⟨by kernel_rfl, rfl⟩, fun _ => by kernel_rfl⟩ hs2 ?_
  (try simp only [Act.put, List.setIfInBounds_toArray, List.set_cons_zero, List.set_cons_succ])
  refine AnyH.take (fuel := 3) (i := 43) (v := undef) rfl rfl (by kernel_rfl) (by kernel_rfl) (by kernel_rfl) (fun _ _ _ h => h) ⟨.inr ⟨by kernel_rfl, rfl⟩, fun _ => by kernel_rfl⟩ hs2 ?_
  (try simp only [Act.put, List.setIfInBounds_toArray, List.set_cons_zero, List.set_cons_succ])
  refine AnyH.take (fuel := 2) (i := 44) (v := undef) rfl rfl (by kernel_rfl) (by kernel_rfl) (by kernel_rfl) (fun _ _ _ h => h) ⟨.inr ⟨by kernel_rfl, rfl⟩, fun _ => by kernel_rfl⟩ hs2 ?_
  (try simp only [Act.put, List.setIfInBounds_toArray, List.set_cons_zero, List.set_cons_succ])
  refine AnyH.take (fuel := 1) (i := 45) (v := .bool true) rfl rfl (by kernel_rfl) (by kernel_rfl) (by kernel_rfl) (fun _ _ _ h => h) ⟨.inl ⟨by kernel_rfl, fun V hV => by obtain ⟨s2, s3, s4, s5, s6, s7, s8, s9⟩ := hV; go_simp⟩, fun _ => rfl⟩ hs2 ?_
  (try simp only [Act.put, List.setIfInBounds_toArray, List.set_cons_zero, List.set_cons_succ])
  refine AnyH.take (fuel := 0) (i := 46) (v := .bool true) rfl rfl (by kernel_rfl) (by kernel_rfl) (by kernel_rfl) (fun _ _ _ h => h) ⟨.inl ⟨by kernel_rfl, fun V hV => by obtain ⟨s2, s3, s4, s5, s6, s7, s8, s9⟩ := hV; go_simp⟩, fun _ => rfl⟩ hs2 ?_
  (try simp only [Act.put, List.setIfInBounds_toArray, List.set_cons_zero, List.set_cons_succ])
  refine AnyH.done (by kernel_rfl) ?_ _
  refine bodyPost_end (results_none rfl _ _ _) rfl ⟨⟨_, rfl⟩, HJ2.out⟩
end Go.Proofs.YtpmclnlgipphmaaDoor.B
namespace Go.Proofs.YtpmclnlgipphmaaDoor.B
open Go.RowKit Go.Proofs.YtpmclnlgipphmaaDoorW.PrintWords Go.Proofs.YtpmclnlgipphmaaDoorW.PrintMore Go.RF
set_option linter.unusedVariables false
set_option linter.unusedSimpArgs false
attribute [local go_sem] Oper.semAt_some
def partL (base idx sc dp nx xb xi : Int) (rip : Bool) : List Int :=
  [IntKind.u64.wrap dp] ++ (if rip = true then [nx] else []) ++ (if 0 ≤ base then [xb] else []) ++ (if 0 ≤ idx then [IntKind.u64.wrap (xi * IntKind.u64.wrap sc)] else [])
theorem parts_iter (bo bn bc : Nat) (k R base idx sc dp im nx xb xi : Int) (rip : Bool) (cs : Array Value) (W : World) (Z : Nat → Prop) (hb16 : base < 16) (hi16 : idx < 16) (hrip : rip = true → base < 0 ∧ idx < 0)
    (hxb : 0 ≤ base → cs[base.toNat]? = some (.int .u64 xb)) (hxi : 0 ≤ idx → cs[idx.toNat]? = some (.int .u64 xi))
    (ho : W.heap[bo]? = some (.cells #[.int .u8 k, .int .i64 R, .int .i64 base, .int .i64 idx, .int .i64 sc, .int .i64 dp, .bool rip, .int .i64 im] 36 (0, 0))) (hn : W.heap[bn]? = some (.cells #[.int .u64 nx] 22 (0, 0))) (hc : W.heap[bc]? = some (.cells cs 29 (0, 0))) (hZ : ∀ j, Z j → j ≠ bo ∧ j ≠ bn ∧ j ≠ bc) :
    IterT Tryd.prog 23 #[.pointer (some ⟨bo, 0, none⟩), .pointer (some ⟨bn, 0, none⟩), .pointer (some ⟨bc, 0, none⟩)] encU (fun _ => False) Z (partL base idx sc dp nx xb xi rip) W := by
  unfold partL
  cases rip with
  | true =>
    obtain ⟨h1, h2⟩ := hrip rfl
    rw [if_pos rfl, if_neg (by omega), if_neg (by omega)]
    exact parts_r bo bn bc k R base idx sc dp im nx _ xb xi _ cs W Z h1 h2 rfl rfl hxb hxi ho hn hc hZ
  | false =>
    rw [if_neg (by decide)]
    by_cases hb : 0 ≤ base
    · obtain ⟨jb, rfl⟩ := Int.eq_ofNat_of_zero_le hb
      by_cases hi : 0 ≤ idx
      · obtain ⟨ji, rfl⟩ := Int.eq_ofNat_of_zero_le hi
        rw [if_pos hb, if_pos hi]
        exact parts_bi bo bn bc k R sc dp im nx _ xb xi _ jb ji cs W Z (by omega) (by omega) rfl rfl hxb hxi ho hn hc hZ
      · rw [if_pos hb, if_neg hi]
        exact parts_b bo bn bc k R idx sc dp im nx _ xb xi _ jb cs W Z (by omega) (by omega) rfl rfl hxb hxi ho hn hc hZ
    · by_cases hi : 0 ≤ idx
      · obtain ⟨ji, rfl⟩ := Int.eq_ofNat_of_zero_le hi
        rw [if_neg hb, if_pos hi]
        exact parts_i bo bn bc k R base sc dp im nx _ xb xi _ ji cs W Z (by omega) (by omega) rfl rfl hxb hxi ho hn hc hZ
      · rw [if_neg hb, if_neg hi]
        exact parts_0 bo bn bc k R base idx sc dp im nx _ xb xi _ cs W Z (by omega) (by omega) rfl rfl hxb hxi ho hn hc hZ
set_option maxRecDepth 100000 in
theorem parts_calls (cs : Array Value) (k R base idx sc dp im nx : Int) (rip : Bool) (w : World) :
    Calls Tryd.prog 19 #[.agg cs, .agg #[.int .u8 k, .int .i64 R, .int .i64 base, .int .i64 idx, .int .i64 sc, .int .i64 dp, .bool rip, .int .i64 im], .int .u64 nx] w fun e w' =>
      e = .returned (.func (.func 23) #[] #[.pointer (some ⟨w.heap.size + 1, 0, none⟩), .pointer (some ⟨w.heap.size + 2, 0, none⟩), .pointer (some ⟨w.heap.size, 0, none⟩)])
      ∧ w'.heap[w.heap.size]? = some (.cells cs 29 (0, 0)) ∧ w'.heap[w.heap.size + 1]? = some (.cells #[.int .u8 k, .int .i64 R, .int .i64 base, .int .i64 idx, .int .i64 sc, .int .i64 dp, .bool rip, .int .i64 im] 36 (0, 0)) ∧ w'.heap[w.heap.size + 2]? = some (.cells #[.int .u64 nx] 22 (0, 0)) ∧ Below w.heap.size w w' := by
  go_enter Tryd.func19, Tryd.ntmps19
  go_wp2_with fail
  go_ret
  have h0 := World.alloc_heap_new w (.cells cs 29)
  have h1 := World.alloc_heap_new (w.alloc (.cells cs 29)) (.cells #[.int .u8 k, .int .i64 R, .int .i64 base, .int .i64 idx, .int .i64 sc, .int .i64 dp, .bool rip, .int .i64 im] 36)
  have h2 := World.alloc_heap_new ((w.alloc (.cells cs 29)).alloc (.cells #[.int .u8 k, .int .i64 R, .int .i64 base, .int .i64 idx, .int .i64 sc, .int .i64 dp, .bool rip, .int .i64 im] 36)) (.cells #[.int .u64 nx] 22)
  rw [World.size_alloc] at h1
  rw [World.size_alloc, World.size_alloc] at h2
  refine ⟨rfl, ?_, ?_, h2, bX_ (bX_ (bX_ (Below.refl _ _) _) _) _⟩
  · exact (Below.heap_alloc _ _ _ (by rw [World.size_alloc, World.size_alloc]; omega)).trans ((Below.heap_alloc _ _ _ (by rw [World.size_alloc]; omega)).trans h0)
  · exact (Below.heap_alloc _ _ _ (by rw [World.size_alloc, World.size_alloc]; omega)).trans h1
def sumL (l : List Int) : Int := l.foldl (fun a x => IntKind.u64.wrap (a + x)) 0
theorem sumL_snoc (l : List Int) (x : Int) : sumL (l ++ [x]) = IntKind.u64.wrap (sumL l + x) := by
  unfold sumL
  rw [List.foldl_append]
  rfl
theorem results_a {T : Array Value} {W : World} {b : Nat} {v : Value} (h : W.heap[b]? = some (.cells #[v] 22 (0, 0))) (ht : T.getD 6 undef = .pointer (some ⟨b, 0, none⟩)) :
    (results Tryd.f9 T).run Tryd.prog W = .ok (.tuple #[v, T.getD 7 undef]) W := by
  have q := (cell_of_block h).1
  have hu := Tryd.underlying22
  have ht1 : T[6]?.getD undef = .pointer (some ⟨b, 0, none⟩) := by rw [← ht]; simp
  simp only [results, show Tryd.f9.results = #[.cell 6 22, .tmp 7] from rfl]
  simp [go_sem, ht1, q]
set_option maxHeartbeats 8000000 in
set_option maxRecDepth 100000 in
theorem address_ok (cs : Array Value) (R base idx sc dp im nx xb xi : Int) (rip : Bool) (w : World) (hsz : cs.size = 278) (hright : operand_Right.f 2 2 R base idx sc dp rip im = some true) (hb16 : base < 16) (hi16 : idx < 16) (hrip : rip = true → base < 0 ∧ idx < 0)
    (hxb : 0 ≤ base → cs[base.toNat]? = some (.int .u64 xb)) (hxi : 0 ≤ idx → cs[idx.toNat]? = some (.int .u64 xi)) :
    Calls Tryd.prog 9 #[.agg cs, .agg #[.int .u8 2, .int .i64 R, .int .i64 base, .int .i64 idx, .int .i64 sc, .int .i64 dp, .bool rip, .int .i64 im], .int .u64 nx] w fun e w' =>
      e = .returned (.tuple #[.int .u64 (sumL (partL base idx sc dp nx xb xi rip)), .int .i64 0]) ∧ Below w.heap.size w w' := by
  have hu36 := Tryd.underlying36
  have hu29 := Tryd.underlying29
  have HRT := Aside0.mk hright
  have HPI := fun bo bn bc W Z => parts_iter bo bn bc 2 R base idx sc dp im nx xb xi rip cs W Z hb16 hi16 hrip hxb hxi
  have HP := Aside0.mk HPI
  have HIN : Aside0 ((Tryd.prog.info? 29).map (·.size) = some cs.size) := ⟨by rw [hsz]; exact size29⟩
  clear hright hb16 hi16 hrip hxb hxi HPI hsz
  obtain ⟨PL, hPL⟩ : ∃ l, partL base idx sc dp nx xb xi rip = l := ⟨_, rfl⟩
  rw [hPL] at HP ⊢
  clear hPL
  refine calls_of_end Tryd.func9 rfl ?_
  simp only [Tryd.ntmps9, List.size_toArray, List.length_cons, List.length_nil, Nat.reduceAdd, Nat.reduceSub, Array.replicate_succ, Array.replicate_zero, List.push_toArray, List.append_toArray, List.nil_append, List.cons_append]
  go_upto_region 1 with (fail)
  have b0 := World.alloc_heap_new w (.cells cs 29)
  have b1 := World.alloc_heap_new (w.alloc (.cells cs 29)) (.cells #[.int .u8 2, .int .i64 R, .int .i64 base, .int .i64 idx, .int .i64 sc, .int .i64 dp, .bool rip, .int .i64 im] 36)
  have b2 := World.alloc_heap_new ((w.alloc (.cells cs 29)).alloc (.cells #[.int .u8 2, .int .i64 R, .int .i64 base, .int .i64 idx, .int .i64 sc, .int .i64 dp, .bool rip, .int .i64 im] 36)) (.cells #[.int .u64 0] 22)
  rw [World.size_alloc] at b1
  rw [World.size_alloc, World.size_alloc] at b2
  have b0' := (Below.heap_alloc ((w.alloc (.cells cs 29)).alloc (.cells #[.int .u8 2, .int .i64 R, .int .i64 base, .int .i64 idx, .int .i64 sc, .int .i64 dp, .bool rip, .int .i64 im] 36)) (.cells #[.int .u64 0] 22) _ (by rw [World.size_alloc, World.size_alloc]; omega)).trans ((Below.heap_alloc (w.alloc (.cells cs 29)) (.cells #[.int .u8 2, .int .i64 R, .int .i64 base, .int .i64 idx, .int .i64 sc, .int .i64 dp, .bool rip, .int .i64 im] 36) _ (by rw [World.size_alloc]; omega)).trans b0)
  have b1' := (Below.heap_alloc ((w.alloc (.cells cs 29)).alloc (.cells #[.int .u8 2, .int .i64 R, .int .i64 base, .int .i64 idx, .int .i64 sc, .int .i64 dp, .bool rip, .int .i64 im] 36)) (.cells #[.int .u64 0] 22) _ (by rw [World.size_alloc, World.size_alloc]; omega)).trans b1
  have hbl : Below w.heap.size w (((w.alloc (.cells cs 29)).alloc (.cells #[.int .u8 2, .int .i64 R, .int .i64 base, .int .i64 idx, .int .i64 sc, .int .i64 dp, .bool rip, .int .i64 im] 36)).alloc (.cells #[.int .u64 0] 22)) := bX_ (bX_ (bX_ (Below.refl _ _) _) _) _
  have B0 := Aside0.mk b0'
  have B1 := Aside0.mk b1'
  have B2 := Aside0.mk b2
  have HB := Aside0.mk hbl
  clear b0 b1 b2 b0' b1' hbl
  generalize (((w.alloc (.cells cs 29)).alloc (.cells #[.int .u8 2, .int .i64 R, .int .i64 base, .int .i64 idx, .int .i64 sc, .int .i64 dp, .bool rip, .int .i64 im] 36)).alloc (.cells #[.int .u64 0] 22)) = w1 at *
  obtain ⟨o0, o1, o2, o3, o4, o5, o6, o7⟩ := rows8 B1.out
  go_upto_region 3 with (first | (go_at_call 18; refine (operand_Right.calls 2 2 R base idx sc dp rip im true w1 HRT.out).mono ?_; rintro e w2 ⟨rfl, hb2⟩))
  have B02 := Aside0.mk (blk_below B0.out hb2)
  have B12 := Aside0.mk (blk_below B1.out hb2)
  have B22 := Aside0.mk (blk_below B2.out hb2)
  have HB2 := Aside0.mk (HB.out.trans (hb2.mono HB.out.size))
  clear B0 B1 B2 HB hb2 o0 o1 o2 o3 o4 o5 o6 o7
  obtain ⟨o0, o1, o2, o3, o4, o5, o6, o7⟩ := rows8 B12.out
  go_wp2_with (first | (with_reducible refine wpList_load_row rfl 29 (.tmp 3) rfl w.heap.size rfl 29 cs (0, 0) _ B02.out hu29 rfl HIN.out ?_) | (go_at_call 19; refine (parts_calls cs 2 R base idx sc dp im nx rip w2).mono ?_; rintro e w3 ⟨rfl, p0, p1, p2, hb3⟩; have P0 := Aside0.mk p0; have P1 := Aside0.mk p1; have P2 := Aside0.mk p2; have HB3 := Aside0.mk hb3; clear p0 p1 p2 hb3))
  (try simp only [Act.put, List.setIfInBounds_toArray, List.set_cons_zero, List.set_cons_succ])
  have hl2 : w.heap.size + 1 + 1 < w2.heap.size := blk_lt B22.out
  have hl3 : w2.heap.size + 2 < w3.heap.size := blk_lt P2.out
  have B23 := Aside0.mk (blk_below B22.out HB3.out)
  have HBB := Aside0.mk (HB2.out.trans (HB3.out.mono HB2.out.size))
  refine wp_rangeT (α := Int) (gf := 23) rfl (enters_of Tryd.func23 (by kernel_rfl) rfl) (encs := encU) (Q := fun _ => False) (R := fun k => k = w.heap.size + 1 + 1) (L := PL)
    (fun W hk => HP.out _ _ _ W _ (hk.at_ P1.out (fun h => h)) (hk.at_ P2.out (fun h => h)) (hk.at_ P0.out (fun h => h)) (fun k h => by omega)) (fun k h => h.elim) (fun k h => by omega) (fun _ => rfl)
    (fun pre W => Below w.heap.size w W ∧ W.heap[w.heap.size + 1 + 1]? = some (.cells #[.int .u64 (sumL pre)] 22 (0, 0)))
    (fun s A B hs' hk => ⟨hs'.1.trans (hk.below hs'.1.size (fun k hk' h => by rcases h with h | h; exact h.elim; omega)), hk.at_ hs'.2 (by rintro (h | h); exact h.elim; omega)⟩)
    ⟨HBB.out, B23.out⟩ ?_ ?assign ?body ?done
  case assign =>
    intro lp x W K hK
    simp only [encU]
    gi_wp2
    exact hK
  case done =>
    rintro W ⟨hB, h1⟩ hd
    obtain ⟨c1, f1⟩ := cell_of_block h1
    have HBW := Aside0.mk hB
    have H1 := Aside0.mk h1
    have HDD := Aside0.mk hd
    clear hB h1 hd
    go_wp2
    have hkp : Keeps (fun k => k = w3.heap.size) (W.setCell ⟨w.heap.size + 1 + 1, 0, none⟩ (.int .u64 (sumL PL))) ((W.setCell ⟨w.heap.size + 1 + 1, 0, none⟩ (.int .u64 (sumL PL))).putObj w3.heap.size (.deferred none)) := (Keeps.refl _ _).putObj _ _ rfl
    refine end_mark (D := w3.heap.size) rfl ((Below.heap_setCell W _ _ _ (by show w3.heap.size ≠ w.heap.size + 1 + 1; omega)).trans HDD.out) (results_a (hkp.at_ (blk_store H1.out _) (by omega)) rfl) ⟨rfl, ?_⟩
    exact (HBW.out.trans ((((Keeps.refl (fun k => k = w.heap.size + 1 + 1) W).setCell ⟨w.heap.size + 1 + 1, 0, none⟩ _ rfl).below HBW.out.size (fun k hk h => by omega)))).trans (hkp.below (by rw [World.size_setCell]; exact HBW.out.size) (fun k hk h => by omega))
  case body =>
    rintro lp pre x suf W hLL hsz' ⟨hB, h1⟩
    obtain ⟨c1, f1⟩ := cell_of_block h1
    have hps : sumL (pre ++ [x]) = _ := sumL_snoc pre x
    have HPS := Aside0.mk hps
    have HBW := Aside0.mk hB
    have H1 := Aside0.mk h1
    clear hps hB h1 hLL
    obtain ⟨pk, hpk⟩ : ∃ p, sumL pre = p := ⟨_, rfl⟩
    rw [hpk] at HPS H1 c1
    clear hpk
    gi_wp2
    have hkp : Keeps (fun k => k = w.heap.size + 1 + 1 ∨ w3.heap.size + 2 ≤ k) W (W.setCell ⟨w.heap.size + 1 + 1, 0, none⟩ (.int .u64 (IntKind.u64.wrap (pk + x)))) := (Keeps.refl _ W).setCell _ _ (.inl rfl)
    refine ⟨hkp, HBW.out.trans (hkp.below HBW.out.size (fun k hk h => by omega)), ?_⟩
    rw [HPS.out]
    exact blk_store H1.out _
set_option maxHeartbeats 8000000 in
set_option maxRecDepth 100000 in
theorem address_kind (cs : Array Value) (k R base idx sc dp im nx : Int) (rip : Bool) (w : World) (hk : k ≠ 2) :
    Calls Tryd.prog 9 #[.agg cs, .agg #[.int .u8 k, .int .i64 R, .int .i64 base, .int .i64 idx, .int .i64 sc, .int .i64 dp, .bool rip, .int .i64 im], .int .u64 nx] w fun e w' =>
      e = .returned (.tuple #[.int .u64 0, .int .i64 2]) ∧ Below w.heap.size w w' := by
  have e1 : (k == 2) = false := beq_eq_false_iff_ne.mpr hk
  have e2 : (k != 2) = true := by simp [hk]
  have HK := Aside0.mk hk
  clear hk
  have hu36 := Tryd.underlying36
  refine calls_of_end Tryd.func9 rfl ?_
  simp only [Tryd.ntmps9, List.size_toArray, List.length_cons, List.length_nil, Nat.reduceAdd, Nat.reduceSub, Array.replicate_succ, Array.replicate_zero, List.push_toArray, List.append_toArray, List.nil_append, List.cons_append]
  go_upto_region 1 with (fail)
  have b1 := World.alloc_heap_new (w.alloc (.cells cs 29)) (.cells #[.int .u8 k, .int .i64 R, .int .i64 base, .int .i64 idx, .int .i64 sc, .int .i64 dp, .bool rip, .int .i64 im] 36)
  have b2 := World.alloc_heap_new ((w.alloc (.cells cs 29)).alloc (.cells #[.int .u8 k, .int .i64 R, .int .i64 base, .int .i64 idx, .int .i64 sc, .int .i64 dp, .bool rip, .int .i64 im] 36)) (.cells #[.int .u64 0] 22)
  rw [World.size_alloc] at b1
  rw [World.size_alloc, World.size_alloc] at b2
  have b1' := (Below.heap_alloc ((w.alloc (.cells cs 29)).alloc (.cells #[.int .u8 k, .int .i64 R, .int .i64 base, .int .i64 idx, .int .i64 sc, .int .i64 dp, .bool rip, .int .i64 im] 36)) (.cells #[.int .u64 0] 22) _ (by rw [World.size_alloc, World.size_alloc]; omega)).trans b1
  have hbl : Below w.heap.size w (((w.alloc (.cells cs 29)).alloc (.cells #[.int .u8 k, .int .i64 R, .int .i64 base, .int .i64 idx, .int .i64 sc, .int .i64 dp, .bool rip, .int .i64 im] 36)).alloc (.cells #[.int .u64 0] 22)) := bX_ (bX_ (bX_ (Below.refl _ _) _) _) _
  have B1 := Aside0.mk b1'
  have B2 := Aside0.mk b2
  have HB := Aside0.mk hbl
  clear b1 b2 b1' hbl
  generalize (((w.alloc (.cells cs 29)).alloc (.cells #[.int .u8 k, .int .i64 R, .int .i64 base, .int .i64 idx, .int .i64 sc, .int .i64 dp, .bool rip, .int .i64 im] 36)).alloc (.cells #[.int .u64 0] 22)) = w1 at *
  obtain ⟨o0, o1, o2, o3, o4, o5, o6, o7⟩ := rows8 B1.out
  obtain ⟨c2, f2⟩ := cell_of_block B2.out
  go_wp2_with fail
  have hl1 : w.heap.size + 1 + 1 < w1.heap.size := blk_lt B2.out
  refine end_plain rfl (results_a (blk_store B2.out _) rfl) ⟨rfl, ?_⟩
  exact HB.out.trans (Keeps.below ((Keeps.refl (fun k => k = w.heap.size + 1 + 1) w1).setCell ⟨w.heap.size + 1 + 1, 0, none⟩ _ rfl) (by omega) (fun k hk h => by omega))
set_option maxHeartbeats 8000000 in
set_option maxRecDepth 100000 in
theorem address_not (cs : Array Value) (R base idx sc dp im nx : Int) (rip : Bool) (w : World) (hright : operand_Right.f 2 2 R base idx sc dp rip im = some false) :
    Calls Tryd.prog 9 #[.agg cs, .agg #[.int .u8 2, .int .i64 R, .int .i64 base, .int .i64 idx, .int .i64 sc, .int .i64 dp, .bool rip, .int .i64 im], .int .u64 nx] w fun e w' =>
      e = .returned (.tuple #[.int .u64 0, .int .i64 2]) ∧ Below w.heap.size w w' := by
  have HRT := Aside0.mk hright
  clear hright
  have hu36 := Tryd.underlying36
  refine calls_of_end Tryd.func9 rfl ?_
  simp only [Tryd.ntmps9, List.size_toArray, List.length_cons, List.length_nil, Nat.reduceAdd, Nat.reduceSub, Array.replicate_succ, Array.replicate_zero, List.push_toArray, List.append_toArray, List.nil_append, List.cons_append]
  go_upto_region 1 with (fail)
  have b1 := World.alloc_heap_new (w.alloc (.cells cs 29)) (.cells #[.int .u8 2, .int .i64 R, .int .i64 base, .int .i64 idx, .int .i64 sc, .int .i64 dp, .bool rip, .int .i64 im] 36)
  have b2 := World.alloc_heap_new ((w.alloc (.cells cs 29)).alloc (.cells #[.int .u8 2, .int .i64 R, .int .i64 base, .int .i64 idx, .int .i64 sc, .int .i64 dp, .bool rip, .int .i64 im] 36)) (.cells #[.int .u64 0] 22)
  rw [World.size_alloc] at b1
  rw [World.size_alloc, World.size_alloc] at b2
  have b1' := (Below.heap_alloc ((w.alloc (.cells cs 29)).alloc (.cells #[.int .u8 2, .int .i64 R, .int .i64 base, .int .i64 idx, .int .i64 sc, .int .i64 dp, .bool rip, .int .i64 im] 36)) (.cells #[.int .u64 0] 22) _ (by rw [World.size_alloc, World.size_alloc]; omega)).trans b1
  have hbl : Below w.heap.size w (((w.alloc (.cells cs 29)).alloc (.cells #[.int .u8 2, .int .i64 R, .int .i64 base, .int .i64 idx, .int .i64 sc, .int .i64 dp, .bool rip, .int .i64 im] 36)).alloc (.cells #[.int .u64 0] 22)) := bX_ (bX_ (bX_ (Below.refl _ _) _) _) _
  have B1 := Aside0.mk b1'
  have B2 := Aside0.mk b2
  have HB := Aside0.mk hbl
  clear b1 b2 b1' hbl
  generalize (((w.alloc (.cells cs 29)).alloc (.cells #[.int .u8 2, .int .i64 R, .int .i64 base, .int .i64 idx, .int .i64 sc, .int .i64 dp, .bool rip, .int .i64 im] 36)).alloc (.cells #[.int .u64 0] 22)) = w1 at *
  obtain ⟨o0, o1, o2, o3, o4, o5, o6, o7⟩ := rows8 B1.out
  go_upto_region 2 with (first | (go_at_call 18; refine (operand_Right.calls 2 2 R base idx sc dp rip im false w1 HRT.out).mono ?_; rintro e w2 ⟨rfl, hb2⟩))
  have B22 := Aside0.mk (blk_below B2.out hb2)
  have HB2 := Aside0.mk (HB.out.trans (hb2.mono HB.out.size))
  clear B1 B2 HB hb2 o0 o1 o2 o3 o4 o5 o6 o7
  obtain ⟨c2, f2⟩ := cell_of_block B22.out
  go_wp2_with fail
  have hl1 : w.heap.size + 1 + 1 < w2.heap.size := blk_lt B22.out
  refine end_plain rfl (results_a (blk_store B22.out _) rfl) ⟨rfl, ?_⟩
  exact HB2.out.trans (Keeps.below ((Keeps.refl (fun k => k = w.heap.size + 1 + 1) w2).setCell ⟨w.heap.size + 1 + 1, 0, none⟩ _ rfl) (by omega) (fun k hk h => by omega))
end Go.Proofs.YtpmclnlgipphmaaDoor.B
