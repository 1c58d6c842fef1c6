/- Small words on blocks; the bytes of a word, one by one. bits.Bytes. bits.Number of at most eight bytes. The numbers of fields, one by one. header.taken: the numbers of fields, in a row. -/
import Derived.Test.YtopldeeojehklaaDoorProg
import Derived.Below
import Derived.Deep.Draws
import Derived.Deep.AppendLies
import Derived.Maps.AppendAt
import Derived.OwnWalk
import Derived.Laws.BytesArg
import Derived.Laws.MakeOwn
import Derived.Laws.OwnMore
import Derived.Deep.OwnRows
import Derived.Tactics
import Derived.Lib.ConvBytes
import Derived.Laws.Slices
import Derived.WalkKit
import Derived.KernelRfl
import Derived.RowKit3
import Derived.Deep.LoopGhost
import Derived.Deep.QuietTactic
import Derived.BigQuiet
import Derived.WideLaws
import Derived.Deep.DeepCutAuto
import Derived.Deep.CutBlock
import Derived.Deep.RegionHeld3
import Derived.Laws.Rows
import Derived.Lib.AppendStr
import Derived.ArgAppend
import Derived.Laws.IdiomCopy
import Derived.OrdersHeld
import Derived.Laws.BitsLemmas
import Derived.RowKit
import Derived.Test.YtopldeeojehklaaDoorYq1
import Derived.Test.YtopldeeojehklaaDoorYq2
import Derived.Test.YtopldeeojehklaaDoorYq3
import Derived.Test.YtopldeeojehklaaDoorYq4
import Derived.WalkMore
import Derived.Shelf.Abstract
import Derived.Deep.Slices
namespace Go.Proofs.YtopldeeojehklaaDoor.B
open Go.RowKit Go.Proofs.YtopldeeojehklaaDoorW.PrintWords Go.Proofs.YtopldeeojehklaaDoorW.PrintLast Go.Proofs.YtopldeeojehklaaDoorW.PrintMore
attribute [local go_sem] max2_int min2_int max_two min_two max_three min_three max_four min_four   -- for this text's walks alone
set_option linter.unusedVariables false
set_option linter.unusedSimpArgs false
def errW : Option Int → Value
  | none => .nilIface
  | some c => .iface 0 (.int .i64 c)
theorem errW_none : errW none = .nilIface := rfl
theorem errW_some (c : Int) : errW (some c) = .iface 0 (.int .i64 c) := rfl
theorem info5 : (Tryd.prog.info? 5).map (fun i => (i.zero, i.size, i.bytes)) = some (some (.int .u8 0), 1, 1) := by kernel_rfl
theorem info30 : (Tryd.prog.info? 30).map (fun i => (i.zero, i.size, i.bytes)) = some (some (.agg #[(.int .u32 0), (.int .u32 0), (.int .u64 0), (.int .u64 0), (.int .u64 0), (.int .u64 0), (.int .u64 0)]), 7, 48) := by kernel_rfl
theorem info32 : (Tryd.prog.info? 32).map (fun i => (i.zero, i.size, i.bytes)) = some (some (.agg #[(.int .u32 0), (.int .u64 0), (.int .u64 0), (.int .u32 0), (.int .u64 0)]), 5, 40) := by kernel_rfl
structure S30 where
  f0 : Int
  f1 : Int
  f2 : Int
  f3 : Int
  f4 : Int
  f5 : Int
  f6 : Int
def z30 : S30 := ⟨(0 : Int), (0 : Int), (0 : Int), (0 : Int), (0 : Int), (0 : Int), (0 : Int)⟩
def k30 : Kd S30 := Kd.iso (Kd.pair (Kd.int .u32) (Kd.pair (Kd.int .u32) (Kd.pair (Kd.int .u64) (Kd.pair (Kd.int .u64) (Kd.pair (Kd.int .u64) (Kd.pair (Kd.int .u64) (Kd.int .u64))))))) (fun x : S30 => (x.f0, x.f1, x.f2, x.f3, x.f4, x.f5, x.f6))
theorem k30_open {w : World} {x : S30} {cs : List Value} (h : k30.K w x cs) : cs = [.int .u32 x.f0, .int .u32 x.f1, .int .u64 x.f2, .int .u64 x.f3, .int .u64 x.f4, .int .u64 x.f5, .int .u64 x.f6] := by
  obtain ⟨_, _, rfl, rfl, ⟨_, _, rfl, rfl, ⟨_, _, rfl, rfl, ⟨_, _, rfl, rfl, ⟨_, _, rfl, rfl, ⟨_, _, rfl, rfl, rfl⟩⟩⟩⟩⟩⟩ := h
  exact rfl
theorem k30_mkM (w : World) (base : Nat) (ok : Nat → Prop) (x : S30)  : k30.M w base ok x [.int .u32 x.f0, .int .u32 x.f1, .int .u64 x.f2, .int .u64 x.f3, .int .u64 x.f4, .int .u64 x.f5, .int .u64 x.f6] := ⟨[.int .u32 x.f0], [.int .u32 x.f1, .int .u64 x.f2, .int .u64 x.f3, .int .u64 x.f4, .int .u64 x.f5, .int .u64 x.f6], rfl, rfl, ⟨[.int .u32 x.f1], [.int .u64 x.f2, .int .u64 x.f3, .int .u64 x.f4, .int .u64 x.f5, .int .u64 x.f6], rfl, rfl, ⟨[.int .u64 x.f2], [.int .u64 x.f3, .int .u64 x.f4, .int .u64 x.f5, .int .u64 x.f6], rfl, rfl, ⟨[.int .u64 x.f3], [.int .u64 x.f4, .int .u64 x.f5, .int .u64 x.f6], rfl, rfl, ⟨[.int .u64 x.f4], [.int .u64 x.f5, .int .u64 x.f6], rfl, rfl, ⟨[.int .u64 x.f5], [.int .u64 x.f6], rfl, rfl, rfl⟩⟩⟩⟩⟩⟩
def rd_T30 (xs : List S30) (i : Int) : S30 := xs.getD i.toNat z30
theorem at_T30 {w : World} {A : Option Addr} {n : Nat} {xs : List S30} (h : Kd.C k30 w A n xs) (i : Int) (h0 : 0 ≤ i) (h1 : i < n) : ∃ ad , A = some ad ∧ w.cell? (ad.add (i.toNat * 7)) = some (.int .u32 (rd_T30 xs i).f0) ∧ w.cell? ⟨(ad.add (i.toNat * 7)).block, (ad.add (i.toNat * 7)).off + 1, none⟩ = some (.int .u32 (rd_T30 xs i).f1) ∧ w.cell? ⟨(ad.add (i.toNat * 7)).block, (ad.add (i.toNat * 7)).off + 2, none⟩ = some (.int .u64 (rd_T30 xs i).f2) ∧ w.cell? ⟨(ad.add (i.toNat * 7)).block, (ad.add (i.toNat * 7)).off + 3, none⟩ = some (.int .u64 (rd_T30 xs i).f3) ∧ w.cell? ⟨(ad.add (i.toNat * 7)).block, (ad.add (i.toNat * 7)).off + 4, none⟩ = some (.int .u64 (rd_T30 xs i).f4) ∧ w.cell? ⟨(ad.add (i.toNat * 7)).block, (ad.add (i.toNat * 7)).off + 5, none⟩ = some (.int .u64 (rd_T30 xs i).f5) ∧ w.cell? ⟨(ad.add (i.toNat * 7)).block, (ad.add (i.toNat * 7)).off + 6, none⟩ = some (.int .u64 (rd_T30 xs i).f6) := by
  obtain ⟨ad, c, e, _, hK, hc0⟩ := Kd.C_get h z30 i h0 h1
  have hc : ∀ j u, c[j]? = some u → w.cell? (ad.add (i.toNat * 7 + j)) = some u := hc0
  obtain rfl := k30_open hK
  exact ⟨ad, e, hc 0 _ rfl, by rw [← add_field _ _ 1 (by omega)]; exact hc 1 _ rfl, by rw [← add_field _ _ 2 (by omega)]; exact hc 2 _ rfl, by rw [← add_field _ _ 3 (by omega)]; exact hc 3 _ rfl, by rw [← add_field _ _ 4 (by omega)]; exact hc 4 _ rfl, by rw [← add_field _ _ 5 (by omega)]; exact hc 5 _ rfl, by rw [← add_field _ _ 6 (by omega)]; exact hc 6 _ rfl⟩
structure S32 where
  f0 : Int
  f1 : Int
  f2 : Int
  f3 : Int
  f4 : Int
def z32 : S32 := ⟨(0 : Int), (0 : Int), (0 : Int), (0 : Int), (0 : Int)⟩
def k32 : Kd S32 := Kd.iso (Kd.pair (Kd.int .u32) (Kd.pair (Kd.int .u64) (Kd.pair (Kd.int .u64) (Kd.pair (Kd.int .u32) (Kd.int .u64))))) (fun x : S32 => (x.f0, x.f1, x.f2, x.f3, x.f4))
theorem k32_open {w : World} {x : S32} {cs : List Value} (h : k32.K w x cs) : cs = [.int .u32 x.f0, .int .u64 x.f1, .int .u64 x.f2, .int .u32 x.f3, .int .u64 x.f4] := by
  obtain ⟨_, _, rfl, rfl, ⟨_, _, rfl, rfl, ⟨_, _, rfl, rfl, ⟨_, _, rfl, rfl, rfl⟩⟩⟩⟩ := h
  exact rfl
theorem k32_mkM (w : World) (base : Nat) (ok : Nat → Prop) (x : S32)  : k32.M w base ok x [.int .u32 x.f0, .int .u64 x.f1, .int .u64 x.f2, .int .u32 x.f3, .int .u64 x.f4] := ⟨[.int .u32 x.f0], [.int .u64 x.f1, .int .u64 x.f2, .int .u32 x.f3, .int .u64 x.f4], rfl, rfl, ⟨[.int .u64 x.f1], [.int .u64 x.f2, .int .u32 x.f3, .int .u64 x.f4], rfl, rfl, ⟨[.int .u64 x.f2], [.int .u32 x.f3, .int .u64 x.f4], rfl, rfl, ⟨[.int .u32 x.f3], [.int .u64 x.f4], rfl, rfl, rfl⟩⟩⟩⟩
def rd_T32 (xs : List S32) (i : Int) : S32 := xs.getD i.toNat z32
theorem at_T32 {w : World} {A : Option Addr} {n : Nat} {xs : List S32} (h : Kd.C k32 w A n xs) (i : Int) (h0 : 0 ≤ i) (h1 : i < n) : ∃ ad , A = some ad ∧ w.cell? (ad.add (i.toNat * 5)) = some (.int .u32 (rd_T32 xs i).f0) ∧ w.cell? ⟨(ad.add (i.toNat * 5)).block, (ad.add (i.toNat * 5)).off + 1, none⟩ = some (.int .u64 (rd_T32 xs i).f1) ∧ w.cell? ⟨(ad.add (i.toNat * 5)).block, (ad.add (i.toNat * 5)).off + 2, none⟩ = some (.int .u64 (rd_T32 xs i).f2) ∧ w.cell? ⟨(ad.add (i.toNat * 5)).block, (ad.add (i.toNat * 5)).off + 3, none⟩ = some (.int .u32 (rd_T32 xs i).f3) ∧ w.cell? ⟨(ad.add (i.toNat * 5)).block, (ad.add (i.toNat * 5)).off + 4, none⟩ = some (.int .u64 (rd_T32 xs i).f4) := by
  obtain ⟨ad, c, e, _, hK, hc0⟩ := Kd.C_get h z32 i h0 h1
  have hc : ∀ j u, c[j]? = some u → w.cell? (ad.add (i.toNat * 5 + j)) = some u := hc0
  obtain rfl := k32_open hK
  exact ⟨ad, e, hc 0 _ rfl, by rw [← add_field _ _ 1 (by omega)]; exact hc 1 _ rfl, by rw [← add_field _ _ 2 (by omega)]; exact hc 2 _ rfl, by rw [← add_field _ _ 3 (by omega)]; exact hc 3 _ rfl, by rw [← add_field _ _ 4 (by omega)]; exact hc 4 _ rfl⟩
structure S27 where
  f0 : Int
  f1 : Int
  f2 : Int
  f3 : (List S30)
  f4 : (List S32)
structure S57 where
  f0 : Int
  f1 : Int
end Go.Proofs.YtopldeeojehklaaDoor.B
namespace Go.Proofs.YtopldeeojehklaaDoor.B
open Go.RowKit Go.Proofs.YtopldeeojehklaaDoorW.PrintWords Go.Proofs.YtopldeeojehklaaDoorW.PrintMore Go.RF
set_option linter.unusedVariables false
set_option linter.unusedSimpArgs false
attribute [local go_sem] Oper.semAt_some
attribute [local go_sem] max2_int min2_int max_two min_two
theorem cell_of_block {W : World} {b : Nat} {v : Value} {t : Nat} (h : W.heap[b]? = some (.cells #[v] t (0, 0))) : W.cell? ⟨b, 0, none⟩ = some v ∧ W.frozen? ⟨b, 0, none⟩ = false := by
  unfold World.cell? World.frozen?
  simp [h]
theorem blk_store {W : World} {b : Nat} {v : Value} {t : Nat} (h : W.heap[b]? = some (.cells #[v] t (0, 0))) (u : Value) : (W.setCell ⟨b, 0, none⟩ u).heap[b]? = some (.cells #[u] t (0, 0)) := by
  obtain ⟨hb, e⟩ := Array.getElem?_eq_some_iff.1 h
  show (W.heap.modify b _)[b]? = _
  rw [Array.getElem?_modify, h]
  simp
theorem heap_below {w w1 : World} (hb : Below w.heap.size w w1) {k : Nat} {o : Obj} (h : w.heap[k]? = some o) : w1.heap[k]? = some o := (hb.block k (Array.getElem?_eq_some_iff.1 h).1).trans h
theorem block_add (ad : Addr) (n : Nat) : (ad.add n).block = ad.block := by unfold Addr.add; split <;> rfl
theorem wrapU {x : Int} (h0 : 0 ≤ x) (h1 : x < 18446744073709551616) : IntKind.u64.wrap x = x := by
  rw [IntKind.wrap_u64]; omega
def Rg (x : Int) : Prop := 0 ≤ x ∧ x < 18446744073709551616
def byteN (x : Int) (i : Nat) : Int := x / 2 ^ (8 * i) % 256
def bytesN (x : Int) (n : Nat) : List Int := (List.range n).map (byteN x)
def byteL (x : Int) (n : Nat) : List (Nat × Int) := (List.range n).map fun i => (i, byteN x i)
def encY (x : Nat × Int) : Array Value := #[.int .i64 x.1, .int .u8 x.2]
theorem byteL_succ (x : Int) (n : Nat) : byteL x (n + 1) = byteL x n ++ [(n, byteN x n)] := by simp [byteL, List.range_succ]
theorem bytesN_succ (x : Int) (n : Nat) : bytesN x (n + 1) = bytesN x n ++ [byteN x n] := by simp [bytesN, List.range_succ]
theorem byteL_split (x : Int) {i n : Nat} (h : i < n) : ∃ suf, byteL x n = byteL x i ++ (i, byteN x i) :: suf := by
  induction n with
  | zero => omega
  | succ n ih =>
    rw [byteL_succ]
    rcases Nat.lt_succ_iff_lt_or_eq.1 h with h | h
    · obtain ⟨suf, hs⟩ := ih h
      exact ⟨suf ++ [(n, byteN x n)], by rw [hs]; simp⟩
    · subst h
      exact ⟨[], rfl⟩
theorem byteL_length (x : Int) (n : Nat) : (byteL x n).length = n := by simp [byteL]
theorem bytesN_length (x : Int) (n : Nat) : (bytesN x n).length = n := by simp [bytesN]
theorem byteL_snd (x : Int) (n : Nat) : (byteL x n).map (·.2) = bytesN x n := by simp [byteL, bytesN]
theorem shift_run (x : Int) (i : Nat) (hi : i < 8) (W : World) : Sem.run Tryd.prog (Op.shift BinOp.shr IntKind.u64 x IntKind.i64 (IntKind.i64.wrap (8 * (i : Int)))) W = .ok (.int .u64 (x / 2 ^ (8 * i))) W := by
  have h : IntKind.i64.wrap (8 * (i : Int)) = 8 * i := by rw [IntKind.wrap_i64]; omega
  rw [h]
  unfold Op.shift
  rw [if_neg (by omega)]
  have hm : min (8 * (i : Int)).toNat IntKind.u64.bits = 8 * i := by
    have : IntKind.u64.bits = 64 := rfl
    omega
  rw [hm]
  have hp : x.fdiv (2 ^ (8 * i)) = x / 2 ^ (8 * i) := by
    have : (0 : Int) ≤ 2 ^ (8 * i) := Int.pow_nonneg (by omega)
    exact Int.fdiv_eq_ediv_of_nonneg _ this
  show Sem.run Tryd.prog (pure (Value.int .u64 (x.fdiv (2 ^ (8 * i)))) : Sem Value) W = _
  rw [hp]
  rfl
theorem byte_wrap (x : Int) (i : Nat) : IntKind.u8.wrap (x / 2 ^ (8 * i)) = byteN x i := by
  unfold byteN; rw [IntKind.wrap_u8]
def intOf : Value → Int | .int _ n => n | _ => 0
set_option maxHeartbeats 8000000 in
set_option maxRecDepth 100000 in
theorem wide_calls (n : Nat) (h0 : 1 ≤ n) (h1 : n ≤ 8) (w : World) : Calls Tryd.prog 42 #[.int .i64 (n : Int)] w fun e w' => e = .returned (.int .i64 (n : Int)) ∧ Below w.heap.size w w' := by
  have e1 : mx (n : Int) 1 = (n : Int) := by unfold mx; omega
  have e2 : mn (n : Int) 8 = (n : Int) := by unfold mn; omega
  go_enter Tryd.func42, Tryd.ntmps42
  go_wp2
  go_ret
  exact ⟨rfl, Below.refl _ _⟩
set_option maxHeartbeats 8000000 in
set_option maxRecDepth 100000 in
theorem bytes_iter (bw bx : Nat) (x : Int) (n : Nat) (W : World) (R : Nat → Prop) (hw : W.heap[bw]? = some (.cells #[.int .i64 (n : Int)] 3 (0, 0))) (hx : W.heap[bx]? = some (.cells #[.int .u64 x] 23 (0, 0)))
    (h1 : 1 ≤ n) (h8 : n ≤ 8) (hR : ∀ k, R k → k ≠ bw ∧ k ≠ bx) :
    IterT Tryd.prog 41 #[.pointer (some ⟨bw, 0, none⟩), .pointer (some ⟨bx, 0, none⟩)] encY (fun _ => False) R (byteL x n) W := by
  intro lp J hJ hY h0
  refine callsIn_wide.2 ?_
  simp only [List.append_toArray, List.cons_append, List.nil_append]
  have hsw : bw < W.heap.size := (Array.getElem?_eq_some_iff.1 hw).1
  have hsx : bx < W.heap.size := (Array.getElem?_eq_some_iff.1 hx).1
  have qw := (cell_of_block hw).1
  have HX := Aside0.mk hx
  have HY := Aside0.mk hY
  have HRR := Aside0.mk hR
  have HJ0 := Aside0.mk h0
  clear hY hR hw hx h0
  go_enter Tryd.func41, Tryd.ntmps41
  go_wp2_with (go_at_call 42; refine (wide_calls n h1 h8 _).mono ?_; rintro e w1 ⟨rfl, hb⟩; have HB := Aside0.mk hb; clear hb)
  clear qw
  go_loopw [7] (fun v wr => ∃ i : Nat, i ≤ n ∧ v = .int .i64 (i : Int) ∧ J (byteL x i) wr ∧ Keeps (fun k => R k ∨ W.heap.size ≤ k) W wr) (fun v _ => ((n : Int) - intOf v).toNat)
  case atStart => exact ⟨0, by omega, rfl, hJ _ _ _ HJ0.out (Keeps.of_below HB.out (fun _ h _ => h)), Keeps.of_below HB.out (fun _ h _ => h)⟩
  case round =>
    obtain ⟨i, hi, rfl, hj, hk⟩ := hrel
    have HJ' := Aside0.mk hj
    have HK := Aside0.mk hk
    have hnx : ¬ (R bx ∨ W.heap.size ≤ bx) := fun h => by
      rcases h with h | h
      · exact (HRR.out _ h).2 rfl
      · omega
    have HBX := Aside0.mk (hk.at_ HX.out hnx)
    clear hj hk hnx
    by_cases hin : i < n
    · obtain ⟨suf, hs⟩ := byteL_split x hin
      obtain ⟨yf, ytmps, yassign, ybody, hy, hround⟩ := HY.out (byteL x i) (i, byteN x i) suf wr hs HJ'.out
      have HS := Aside0.mk hs
      clear hs
      simp only [encY] at hy
      have e1 : decide ((i : Int) < (n : Int)) = true := decide_eq_true (by omega)
      have qx := (cell_of_block HBX.out).1
      have hsh := fun W => shift_run x i (by omega) W
      have hbw := byte_wrap x i
      go_upto_region 3 with (fail)
      refine (wpIn_wide (n := 0)).1 ?_
      gi_wp2
      refine ⟨rfl, hround.mono ?_⟩
      rintro e W3 ⟨rfl, hJ3, hk3⟩
      have HJ3 := Aside0.mk hJ3
      have HK3 := Aside0.mk hk3
      clear hJ3 hk3 hround hy
      gi_wp2
      go_wp2
      go_roundw
      case rel => exact ⟨i + 1, by omega, by go_num, by rw [byteL_succ]; exact HJ3.out, HK.out.trans HK3.out⟩
      case measure => simp [intOf]; omega
    · have hie : i = n := by omega
      subst hie
      have e1 : decide ((i : Int) < (i : Int)) = false := decide_eq_false (by omega)
      go_wp2
      go_end0
      exact ⟨⟨_, rfl⟩, HJ'.out⟩
end Go.Proofs.YtopldeeojehklaaDoor.B
namespace Go.Proofs.YtopldeeojehklaaDoor.B
open Go.RowKit Go.Proofs.YtopldeeojehklaaDoorW.PrintWords Go.Proofs.YtopldeeojehklaaDoorW.PrintMore Go.RF
set_option linter.unusedVariables false
set_option linter.unusedSimpArgs false
attribute [local go_sem] Oper.semAt_some
theorem infoB : (Tryd.prog.info? 5).map (fun i => (i.zero, i.size, i.bytes)) = some (some (.int .u8 0), 1, 1) := by kernel_rfl
theorem infoU : (Tryd.prog.info? 23).map (fun i => (i.zero, i.size, i.bytes)) = some (some (.int .u64 0), 1, 8) := by kernel_rfl
set_option maxHeartbeats 8000000 in
set_option maxRecDepth 100000 in
theorem bytes_calls (x : Int) (n : Nat) (w : World) : Calls Tryd.prog 38 #[.int .u64 x, .int .i64 (n : Int)] w fun e w' => e = .returned (.func (.func 41) #[] #[.pointer (some ⟨w.heap.size + 1, 0, none⟩), .pointer (some ⟨w.heap.size, 0, none⟩)]) ∧
    w'.heap[w.heap.size + 1]? = some (.cells #[.int .i64 (n : Int)] 3 (0, 0)) ∧ w'.heap[w.heap.size]? = some (.cells #[.int .u64 x] 23 (0, 0)) ∧ w'.heap.size = w.heap.size + 2 ∧ Below w.heap.size w w' := by
  go_enter Tryd.func38, Tryd.ntmps38
  go_wp2_with fail
  go_ret
  have b0 := World.alloc_heap_new w (.cells #[.int .u64 x] 23)
  have b1 := World.alloc_heap_new (w.alloc (.cells #[.int .u64 x] 23)) (.cells #[.int .i64 (n : Int)] 3)
  rw [World.size_alloc] at b1
  exact ⟨rfl, b1, heap_below (bX_ (Below.refl _ _) _) b0, by simp, bX_ (bX_ (Below.refl _ _) _) _⟩
set_option maxHeartbeats 8000000 in
set_option maxRecDepth 100000 in
theorem bytes_own (x : Int) (n : Nat) (w : World) (h1 : 1 ≤ n) (h8 : n ≤ 8) : Calls Tryd.prog 33 #[.int .u64 x, .int .i64 (n : Int)] w fun e w' => ∃ v, e = .returned v ∧ w'.ownsRow w.heap.size 5 1 v (byteL x n).length (nums .u8 ((byteL x n).map (·.2))) ∧ Below w.heap.size w w' := by
  have HLEN := Aside0.mk (show (byteL x n).length ≤ 100 by rw [byteL_length]; omega)
  refine calls_of_marks Tryd.func33 rfl ?_
  simp only [Tryd.ntmps33, List.size_toArray, List.length_cons, List.length_nil, Nat.reduceAdd, Nat.reduceSub, Array.replicate_succ, Array.replicate_zero, List.push_toArray, List.append_toArray, List.nil_append, List.cons_append]
  go_upto_region 1 with (fail)
  have b0 := World.alloc_heap_new w (.cells #[.slice none 0 0] 22)
  have hbl : Below w.heap.size w (w.alloc (.cells #[.slice none 0 0] 22)) := bX_ (Below.refl _ _) _
  have hs1 : (w.alloc (.cells #[.slice none 0 0] 22)).heap.size = w.heap.size + 1 := World.size_alloc _ _
  have hk1 : Keeps (fun _ => False) w (w.alloc (.cells #[.slice none 0 0] 22)) := (Keeps.refl _ _).alloc _
  generalize w.alloc (.cells #[.slice none 0 0] 22) = w1 at *
  have B0 := Aside0.mk b0
  have HBL := Aside0.mk hbl
  have HK1 := Aside0.mk hk1
  clear b0 hbl hk1
  go_wp2_with (go_at_call 38; refine (bytes_calls x n _).mono ?_; rintro e w2 ⟨rfl, hv1, hv2, hsz, hb⟩)
  rw [hs1] at hv1 hv2 hsz
  have HV1 := Aside0.mk hv1
  have HV2 := Aside0.mk hv2
  have HSZ := Aside0.mk (show w2.heap.size = w.heap.size + 3 from hsz)
  clear hv1 hv2 hsz
  have HB2 := Aside0.mk (HBL.out.trans (hb.mono (by omega)))
  have B0' := Aside0.mk (heap_below hb B0.out)
  clear hb B0
  refine wp_rangeT (α := Nat × Int) (gf := 41) rfl (enters_of Tryd.func41 (by kernel_rfl) rfl) (encs := encY) (Q := fun _ => False) (R := fun k => k = w.heap.size) (L := byteL x n)
    (fun W hk => bytes_iter _ _ x n W _ (hk.at_ HV1.out (fun h => h)) (hk.at_ HV2.out (fun h => h)) h1 h8 (fun k h => by omega))
    (fun k h => h.elim) (fun k h => by have := HSZ.out; omega) (fun _ => rfl)
    (fun pre W => Below w.heap.size w W ∧ ∃ v, W.heap[w.heap.size]? = some (.cells #[v] 22 (0, 0)) ∧ W.ownsRow (w2.heap.size + 2) 5 1 v pre.length (nums .u8 (pre.map (·.2))))
    (fun s A B hs' hk => ⟨hs'.1.trans (hk.below hs'.1.size (fun k hk' h => by have := HSZ.out; exact h.elim id (fun h => by omega))), by
      obtain ⟨v, h1, h2⟩ := hs'.2
      exact ⟨v, hk.at_ h1 (by have := HSZ.out; exact fun h => h.elim id (fun h => by omega)), own_move h2 (fun k hk' => hk.block k (own_lt h2 k hk') (by have := own_base h2 k hk'; have := HSZ.out; exact fun h => h.elim id (fun h => by omega)))⟩⟩)
    ⟨HB2.out, _, B0'.out, own_nil _ _ _ _⟩
    ?_ ?assign ?body ?done
  case assign =>
    intro lp x W K hK
    simp only [encY]
    gi_wp2
    exact hK
  case done =>
    rintro W ⟨hB, v, h1, h2⟩ hd
    obtain ⟨Av, cv, rfl⟩ := own_slice h2
    have c1 := (cell_of_block h1).1
    have f1 := (cell_of_block h1).2
    have HB := Aside0.mk hB
    have H1 := Aside0.mk h1
    have H2 := Aside0.mk h2
    have HDD := Aside0.mk hd
    clear hB h1 h2 hd
    go_wp2
    have h1' := blk_store H1.out (Value.slice Av (byteL x n).length cv)
    have hsz2 := HSZ.out
    refine leave_mark (D := w2.heap.size) (v := .slice Av (byteL x n).length cv) rfl ((Below.heap_setCell W _ _ w2.heap.size (by show w2.heap.size ≠ w.heap.size; omega)).trans HDD.out) ?_ ?_
    · have hc := (cell_of_block ((World.putObj_heap_other (r := w2.heap.size) (o := .deferred none) (by omega)).trans h1')).1
      simp [results, Tryd.f33, go_sem, hc]
    · have hkp : Keeps (fun k => k = w.heap.size ∨ k = w2.heap.size) W ((W.setCell ⟨w.heap.size, 0, none⟩ (.slice Av (byteL x n).length cv)).putObj w2.heap.size (.deferred none)) :=
        ((Keeps.refl _ W).setCell _ _ (.inl rfl)).putObj _ _ (.inr rfl)
      refine ⟨_, rfl, own_weaken (own_move H2.out (fun k hk => hkp.block k (own_lt H2.out k hk) (by have := own_base H2.out k hk; omega))) (by omega), HB.out.trans (hkp.below HB.out.size (fun k hk h => by omega))⟩
  case body =>
    rintro lp pre x suf W hL hsz' ⟨hB, v, h1, h2⟩
    obtain ⟨Av, cv, rfl⟩ := own_slice h2
    have htot : pre.length + 1 ≤ 1000 := by have e := congrArg List.length hL; rw [List.length_append, List.length_cons] at e; have := HLEN.out; omega
    have c1 := (cell_of_block h1).1
    have f1 := (cell_of_block h1).2
    have HB := Aside0.mk hB
    have H1 := Aside0.mk h1
    obtain ⟨i0, hi, hzz⟩ := Option.map_eq_some_iff.1 infoB
    simp only [Prod.mk.injEq] at hzz
    obtain ⟨hz0, hz1, hz2⟩ := hzz
    clear hB h1
    have hne : ∀ k, (Value.slice Av pre.length cv).ownBlock = some k → k ≠ w.heap.size := fun k hk => by have := own_base h2 k hk; have := HSZ.out; omega
    gi_wp2_with (gi_at_builtin; go_loud (refine wpListIn_append_own _ rfl _ _ 22 rfl (w2.heap.size + 2) 5 i0 (.int .u8 0) 1 1 Tryd.underlying22 hi hz0 hz1 hz2 rfl (by decide) (.slice Av pre.length cv) pre.length (nums .u8 (pre.map (·.2))) rfl ?o1 ⟨W.heap.size, 0, none⟩ 1 _ [.int .u8 x.2] rfl ?c1 ?cc ?c2 ?c3 ?c4 ?c5 ?_))
    case o1 => exact own_move h2 (fun k hk => Below.heap_alloc _ _ _ (own_lt h2 k hk))
    case c1 => rfl
    case cc =>
      intro j u hu
      cases j with
      | zero =>
        simp only [List.getElem?_cons_zero, Option.some.injEq] at hu
        subst hu
        exact (cell_of_block (World.alloc_heap_new W _)).1
      | succ j => simp at hu
    case c2 => intro u hu; simp only [List.mem_singleton] at hu; subst hu; rfl
    case c3 => unfold maxLen; omega
    case c4 => omega
    case c5 => rw [World.size_alloc]; omega
    intro v' W' hown' hgrow _
    obtain ⟨A', c', rfl⟩ := own_slice hown'
    have h1' := (hgrow.block w.heap.size (by have := (Array.getElem?_eq_some_iff.1 H1.out).1; rw [World.size_alloc]; omega) (fun e => hne _ e.symm rfl)).trans (heap_below (bX_ (Below.refl _ _) _) H1.out)
    have c1' := (cell_of_block h1').1
    have f1' := (cell_of_block h1').2
    have H1' := Aside0.mk h1'
    have HO' := Aside0.mk hown'
    have HG' := Aside0.mk hgrow
    have HO := Aside0.mk h2
    clear h1' hown' hgrow c1 f1 hne h2
    gi_wp2
    have hkp : Keeps (fun k => k = w.heap.size ∨ w2.heap.size + 2 ≤ k) W (W'.setCell ⟨w.heap.size, 0, none⟩ (.slice A' (pre.length + 1) c')) :=
      Keeps.setCell (Keeps.trans ((Keeps.refl _ W).alloc _) (Keeps.of_grown HG'.out (fun k e => .inr (own_base HO.out k e)))) _ _ (.inl rfl)
    have hsz2 := HSZ.out
    refine ⟨hkp, HB.out.trans (hkp.below HB.out.size (fun k hk h => by omega)), _, blk_store H1'.out _, ?_⟩
    rw [List.map_append, List.map_cons, List.map_nil, show (pre ++ [x]).length = pre.length + 1 by simp, nums_append]
    exact own_move HO'.out (fun k hk => Below.heap_setCell W' _ _ k (by have := own_base HO'.out k hk; show k ≠ w.heap.size; omega))
theorem Bytes_calls (x : Int) (n : Nat) (h1 : 1 ≤ n) (h8 : n ≤ 8) (w : World) : Calls Tryd.prog 33 #[.int .u64 x, .int .i64 (n : Int)] w fun e w' => ∃ v, e = .returned v ∧ w'.ownsRow w.heap.size 5 1 v n (nums .u8 (bytesN x n)) ∧ Below w.heap.size w w' := by
  refine (bytes_own x n w h1 h8).mono ?_
  rintro e w' ⟨v, rfl, h, hb⟩
  rw [byteL_length, byteL_snd] at h
  exact ⟨v, rfl, h, hb⟩
end Go.Proofs.YtopldeeojehklaaDoor.B
namespace Go.Proofs.YtopldeeojehklaaDoor.B
open Go.RowKit Go.Proofs.YtopldeeojehklaaDoorW.PrintWords Go.Proofs.YtopldeeojehklaaDoorW.PrintMore Go.RF
set_option linter.unusedVariables false
set_option linter.unusedSimpArgs false
attribute [local go_sem] Oper.semAt_some
attribute [local go_sem] max2_int min2_int max_two min_two
def numLE : List Int → Int
  | [] => 0
  | x :: r => x + 256 * numLE r
def BB (xs : List Int) : Prop := ∀ x ∈ xs, 0 ≤ x ∧ x < 256
theorem numLE_nn : ∀ {xs : List Int}, BB xs → 0 ≤ numLE xs ∧ numLE xs < 256 ^ xs.length
  | [], _ => ⟨Int.le_refl 0, by decide⟩
  | x :: r, h => by
    have h1 := h x (List.mem_cons_self)
    have h2 := numLE_nn (xs := r) (fun y hy => h y (List.mem_cons_of_mem _ hy))
    have e : (256 : Int) ^ (x :: r).length = 256 * 256 ^ r.length := by rw [List.length_cons, Int.pow_succ, Int.mul_comm]
    rw [e]
    show 0 ≤ x + 256 * numLE r ∧ x + 256 * numLE r < 256 * 256 ^ r.length
    generalize (256 : Int) ^ r.length = p at *
    omega
theorem numLE_append (xs : List Int) (c : Int) : numLE (xs ++ [c]) = numLE xs + c * 256 ^ xs.length := by
  induction xs with
  | nil => simp [numLE]
  | cons x r ih =>
    show x + 256 * numLE (r ++ [c]) = x + 256 * numLE r + c * 256 ^ (r.length + 1)
    rw [ih, Int.pow_succ, Int.mul_add, ← Int.mul_assoc, ← Int.mul_assoc, Int.mul_comm 256 c, Int.mul_assoc c 256, Int.mul_comm 256 (256 ^ r.length), ← Int.mul_assoc]
    omega
theorem pow256 (i : Nat) : (256 : Int) ^ i = 2 ^ (8 * i) := by
  induction i with
  | zero => rfl
  | succ i ih => rw [Int.pow_succ, ih, show 8 * (i + 1) = 8 * i + 8 by omega, Int.pow_add]; rfl
theorem or_add (a c : Int) (i : Nat) (hi : i < 8) (h0 : 0 ≤ a) (h1 : a < 2 ^ (8 * i)) (c0 : 0 ≤ c) (c1 : c < 256) : Go.bits .or .u64 a (c * 2 ^ (8 * i)) = a + c * 2 ^ (8 * i) := by
  obtain ⟨a', rfl⟩ : ∃ n : Nat, a = n := ⟨a.toNat, by omega⟩
  obtain ⟨c', rfl⟩ : ∃ n : Nat, c = n := ⟨c.toNat, by omega⟩
  have e : ((c' : Int) * 2 ^ (8 * i)) = ((c' <<< (8 * i) : Nat) : Int) := by rw [Nat.shiftLeft_eq]; simp
  have ha : a' < 2 ^ (8 * i) := by exact_mod_cast h1
  have hc : c' < 256 := by omega
  have hp : 2 ^ (8 * i) ≤ 2 ^ 56 := Nat.pow_le_pow_right (by decide) (by omega)
  have hp0 : 0 < 2 ^ (8 * i) := Nat.pow_pos (by decide)
  have e56 : (2 : Nat) ^ 56 = 72057594037927936 := by decide
  have e64 : (2 : Nat) ^ 64 = 18446744073709551616 := by decide
  have hsl : c' <<< (8 * i) = c' * 2 ^ (8 * i) := Nat.shiftLeft_eq _ _
  have hmul : c' * 2 ^ (8 * i) ≤ 255 * 2 ^ (8 * i) := Nat.mul_le_mul_right _ (by omega)
  rw [e]
  show IntKind.u64.wrap ((BitVec.ofInt 64 (a' : Int) ||| BitVec.ofInt 64 ((c' <<< (8 * i) : Nat) : Int)).toNat : Int) = _
  simp only [BitVec.ofInt_natCast, BitVec.toNat_or, BitVec.toNat_ofNat]
  rw [Nat.mod_eq_of_lt (show a' < 2 ^ 64 by omega), Nat.mod_eq_of_lt (show c' <<< (8 * i) < 2 ^ 64 by omega), Nat.or_comm, ← Nat.shiftLeft_add_eq_or_of_lt ha]
  rw [hsl]
  generalize 2 ^ (8 * i) = p at *
  rw [wrapU (by omega) (by omega)]
  omega
theorem shl_wrap (c : Int) (i : Nat) (hi : i < 8) (c0 : 0 ≤ c) (c1 : c < 256) : IntKind.u64.wrap (c * 2 ^ (8 * i)) = c * 2 ^ (8 * i) := by
  have hp : (2 : Int) ^ (8 * i) ≤ 2 ^ 56 := by exact_mod_cast Nat.pow_le_pow_right (n := 2) (by decide) (show 8 * i ≤ 56 by omega)
  have hp0 : (0 : Int) < 2 ^ (8 * i) := Int.pow_pos (by decide)
  have e56 : (2 : Int) ^ 56 = 72057594037927936 := by decide
  refine wrapU (Int.mul_nonneg c0 (by omega)) ?_
  have h1 : c * 2 ^ (8 * i) ≤ 255 * 2 ^ (8 * i) := Int.mul_le_mul_of_nonneg_right (by omega) (by omega)
  omega
theorem shl_run (c : Int) (i : Nat) (hi : i < 8) (c0 : 0 ≤ c) (c1 : c < 256) (W : World) : Sem.run Tryd.prog (Op.shift BinOp.shl IntKind.u64 c IntKind.i64 (IntKind.i64.wrap (8 * (i : Int)))) W = .ok (.int .u64 (c * 2 ^ (8 * i))) W := by
  have h : IntKind.i64.wrap (8 * (i : Int)) = 8 * i := by rw [IntKind.wrap_i64]; omega
  rw [h]
  unfold Op.shift
  rw [if_neg (by omega)]
  have hm : min (8 * (i : Int)).toNat IntKind.u64.bits = 8 * i := by
    have : IntKind.u64.bits = 64 := rfl
    omega
  rw [hm]
  have hw := shl_wrap c i hi c0 c1
  show Sem.run Tryd.prog (pure (Value.int .u64 (IntKind.u64.wrap (c * 2 ^ (8 * i)))) : Sem Value) W = _
  rw [hw]
  rfl
theorem take_snoc (xs : List Int) (i : Nat) (h : i < xs.length) : xs.take (i + 1) = xs.take i ++ [xs.getD i 0] := by
  rw [List.take_succ_eq_append_getElem h, List.getD_eq_getElem?_getD, List.getElem?_eq_getElem h]
  rfl
theorem BB.take {xs : List Int} (h : BB xs) (i : Nat) : BB (xs.take i) := fun x hx => h x (List.mem_of_mem_take hx)
theorem BB.drop {xs : List Int} (h : BB xs) (i : Nat) : BB (xs.drop i) := fun x hx => h x (List.mem_of_mem_drop hx)
theorem BB.get {xs : List Int} (h : BB xs) (i : Nat) : 0 ≤ xs.getD i 0 ∧ xs.getD i 0 < 256 := by
  rw [List.getD_eq_getElem?_getD]
  cases e : xs[i]? with
  | none => exact ⟨Int.le_refl 0, by decide⟩
  | some v => exact h v (List.mem_of_getElem? e)
theorem num_step (xs : List Int) (hb : BB xs) (i : Nat) (h : i < xs.length) (h8 : xs.length ≤ 8) : Go.bits .or .u64 (numLE (xs.take i)) (xs.getD i 0 * 2 ^ (8 * i)) = numLE (xs.take (i + 1)) := by
  have hl : (xs.take i).length = i := by simp; omega
  have h1 := numLE_nn (hb.take i)
  rw [hl, pow256] at h1
  rw [take_snoc xs i h, numLE_append, hl, pow256]
  exact or_add _ _ i (by omega) h1.1 h1.2 (hb.get i).1 (hb.get i).2
set_option maxHeartbeats 8000000 in
set_option maxRecDepth 100000 in
theorem number_same (ad : Addr) (c : Nat) (xs : List Int) (w : World) (h1 : 1 ≤ xs.length) (h8 : xs.length ≤ 8) (hc : xs.length ≤ c) (hx : ∀ j, j < xs.length → w.cell? (ad.add j) = some (.int .u8 (xs.getD j 0))) (hb : BB xs) :
    Calls Tryd.prog 36 #[.slice (some ad) xs.length c] w fun e w' => e = .returned (.int .u64 (numLE xs)) ∧ w' = w := by
  have HX := Aside0.mk hx
  have HB := Aside0.mk hb
  clear hx hb
  obtain ⟨n, hn⟩ : ∃ n, xs.length = n := ⟨_, rfl⟩
  rw [hn] at h1 h8 hc
  have HN := Aside0.mk hn
  rw [hn]
  clear hn
  have e1 : mn (n : Int) 8 = (n : Int) := by unfold mn; omega
  have e2 : (n : Int) ≤ (c : Int) := by omega
  go_enter Tryd.func36, Tryd.ntmps36
  go_wp2
  clear e1 e2
  go_loopw [2, 11] (fun v t wr => ∃ i : Nat, i ≤ n ∧ t = .int .i64 (i : Int) ∧ v = .int .u64 (numLE (xs.take i)) ∧ wr = w) (fun _ t _ => ((n : Int) - intOf t).toNat)
  case atStart => exact ⟨0, by omega, rfl, rfl, rfl⟩
  case round =>
    obtain ⟨i, hi, rfl, rfl, rfl⟩ := hrel
    by_cases hin : i < n
    · have e1 : decide ((i : Int) < (n : Int)) = true := decide_eq_true (by omega)
      have hxi := HX.out i (by rw [HN.out]; exact hin)
      have hg := HB.out.get i
      have hsh := fun W => shl_run (xs.getD i 0) i (by omega) hg.1 hg.2 W
      have hor := num_step xs HB.out i (by rw [HN.out]; exact hin) (by rw [HN.out]; exact h8)
      have hwr := shl_wrap (xs.getD i 0) i (by omega) hg.1 hg.2
      rw [← hwr] at hor
      have HOR := Aside0.mk hor
      have HWY := Aside0.mk (wrapU hg.1 (show xs.getD i 0 < 18446744073709551616 by omega))
      clear hor hwr hg
      generalize xs.getD i 0 = y at *
      go_wp2
      go_roundw
      case rel => exact ⟨i + 1, by omega, by go_num, by rw [HWY.out, HOR.out], trivial⟩
      case measure => simp [intOf]; omega
    · have hie : i = n := by omega
      subst hie
      have e1 : decide ((i : Int) < (i : Int)) = false := decide_eq_false (by omega)
      go_wp2
      go_ret
      refine ⟨?_, rfl⟩
      rw [List.take_of_length_le (by rw [HN.out]; exact Nat.le_refl _)]
      rfl
theorem number_calls (ad : Addr) (c : Nat) (xs : List Int) (w : World) (h1 : 1 ≤ xs.length) (h8 : xs.length ≤ 8) (hc : xs.length ≤ c) (hx : ∀ j, j < xs.length → w.cell? (ad.add j) = some (.int .u8 (xs.getD j 0))) (hb : BB xs) :
    Calls Tryd.prog 36 #[.slice (some ad) xs.length c] w fun e w' => e = .returned (.int .u64 (numLE xs)) ∧ Below w.heap.size w w' :=
  (number_same ad c xs w h1 h8 hc hx hb).mono (by rintro e w' ⟨he, rfl⟩; exact ⟨he, Below.refl _ _⟩)
end Go.Proofs.YtopldeeojehklaaDoor.B
namespace Go.Proofs.YtopldeeojehklaaDoor.B
open Go.RowKit Go.Proofs.YtopldeeojehklaaDoorW.PrintWords Go.Proofs.YtopldeeojehklaaDoorW.PrintMore Go.RF
set_option linter.unusedVariables false
set_option linter.unusedSimpArgs false
attribute [local go_sem] Oper.semAt_some
attribute [local go_sem] max2_int min2_int max_two min_two
def fieldN (xs : List Int) (f : Nat × Nat) : Int := numLE ((xs.drop f.1).take f.2)
def numsL (F : List (Nat × Nat)) (xs : List Int) (i : Nat) : List (Nat × Int) := (List.range i).map fun i => (i, fieldN xs (F.getD i (0, 0)))
def encZ (x : Nat × Int) : Array Value := #[.int .i64 x.1, .int .u64 x.2]
theorem numsL_succ (F : List (Nat × Nat)) (xs : List Int) (n : Nat) : numsL F xs (n + 1) = numsL F xs n ++ [(n, fieldN xs (F.getD n (0, 0)))] := by simp [numsL, List.range_succ]
theorem numsL_split (F : List (Nat × Nat)) (xs : List Int) {i n : Nat} (h : i < n) : ∃ suf, numsL F xs n = numsL F xs i ++ (i, fieldN xs (F.getD i (0, 0))) :: suf := by
  induction n with
  | zero => omega
  | succ n ih =>
    rw [numsL_succ]
    rcases Nat.lt_succ_iff_lt_or_eq.1 h with h | h
    · obtain ⟨suf, hs⟩ := ih h
      exact ⟨suf ++ [(n, fieldN xs (F.getD n (0, 0)))], by rw [hs]; simp⟩
    · subst h
      exact ⟨[], rfl⟩
theorem numsL_length (F : List (Nat × Nat)) (xs : List Int) (n : Nat) : (numsL F xs n).length = n := by simp [numsL]
theorem numsL_snd (F : List (Nat × Nat)) (xs : List Int) : (numsL F xs F.length).map (·.2) = F.map (fieldN xs) := by
  apply List.ext_getElem
  · simp [numsL]
  · intro i h1 h2
    simp only [numsL, List.map_map, List.getElem_map, List.getElem_range, Function.comp]
    congr 1
    rw [List.getD_eq_getElem?_getD, List.getElem?_eq_getElem (by simpa using h2)]
    rfl
def FTab (w : World) (g : Nat) (F : List (Nat × Nat)) : Prop := ∀ i f, F[i]? = some f → w.cell? ⟨g, i * 2, none⟩ = some (.int .i64 (f.1 : Int)) ∧ w.cell? ⟨g, i * 2 + 1, none⟩ = some (.int .i64 (f.2 : Int))
def Row8 (w : World) (ad : Addr) (xs : List Int) : Prop := ∀ j, j < xs.length → w.cell? (ad.add j) = some (.int .u8 (xs.getD j 0))
def Within (F : List (Nat × Nat)) (n : Nat) : Prop := ∀ f ∈ F, 1 ≤ f.2 ∧ f.2 ≤ 8 ∧ f.1 + f.2 ≤ n
theorem number_at (ad : Addr) (c : Nat) (xs : List Int) (f : Nat × Nat) (n : Nat) (hn : f.2 = n) (w : World) (h : 1 ≤ f.2 ∧ f.2 ≤ 8 ∧ f.1 + f.2 ≤ xs.length) (hc : xs.length ≤ c) (hx : Row8 w ad xs) (hb : BB xs) :
    Calls Tryd.prog 36 #[.slice (some (ad.add f.1)) n (c - f.1)] w fun e w' => e = .returned (.int .u64 (fieldN xs f)) ∧ Below w.heap.size w w' := by
  have hl : ((xs.drop f.1).take f.2).length = n := by rw [List.length_take, List.length_drop]; omega
  have := number_calls (ad.add f.1) (c - f.1) ((xs.drop f.1).take f.2) w (by omega) (by omega) (by omega) (fun j hj => by
    rw [Go.Deep.add_add, hx (f.1 + j) (by omega)]
    congr 2
    simp only [List.getD_eq_getElem?_getD, List.getElem?_take, List.getElem?_drop]
    rw [if_pos (by omega)]) ((hb.drop _).take _)
  rw [hl] at this
  exact this
theorem number_at_same (ad : Addr) (c : Nat) (xs : List Int) (f : Nat × Nat) (n : Nat) (hn : f.2 = n) (w : World) (h : 1 ≤ f.2 ∧ f.2 ≤ 8 ∧ f.1 + f.2 ≤ xs.length) (hc : xs.length ≤ c) (hx : Row8 w ad xs) (hb : BB xs) :
    Calls Tryd.prog 36 #[.slice (some (ad.add f.1)) n (c - f.1)] w fun e w' => e = .returned (.int .u64 (fieldN xs f)) ∧ w' = w := by
  have hl : ((xs.drop f.1).take f.2).length = n := by rw [List.length_take, List.length_drop]; omega
  have := number_same (ad.add f.1) (c - f.1) ((xs.drop f.1).take f.2) w (by omega) (by omega) (by omega) (fun j hj => by
    rw [Go.Deep.add_add, hx (f.1 + j) (by omega)]
    congr 2
    simp only [List.getD_eq_getElem?_getD, List.getElem?_take, List.getElem?_drop]
    rw [if_pos (by omega)]) ((hb.drop _).take _)
  rw [hl] at this
  exact this
theorem index_field (g n : Nat) (i : Nat) (hi : i < n) (W : World) : (Instr.indexAt 55 (.slice (some ⟨g, 0, none⟩) n n) (.int .i64 (i : Int))).run Tryd.prog W = .ok (.pointer (some ⟨g, i * 2, none⟩)) W := by
  have hu : Tryd.prog.underlying 55 = some (.slice 57) := by kernel_rfl
  have hc : Tryd.prog.cellsOf 57 = 2 := by kernel_rfl
  have h1 : (0 : Int) ≤ (i : Int) := by omega
  have h2 : (i : Int) < (n : Int) := by omega
  have e : (⟨g, 0, none⟩ : Addr).add (i * 2) = ⟨g, i * 2, none⟩ := by
    unfold Addr.add
    split
    · rename_i h; rw [h]
    · simp
  go_simp
theorem slice_field (ad : Addr) (n c : Nat) (f : Nat × Nat) (h : 1 ≤ f.2 ∧ f.2 ≤ 8 ∧ f.1 + f.2 ≤ n) (hc : n ≤ c) (W : World) :
    (Instr.slice 22 (.slice (some ad) n c) (some (.int .i64 (f.1 : Int))) (some (.int .i64 ((f.1 : Int) + (f.2 : Int)))) none).run Tryd.prog W = .ok (.slice (some (ad.add f.1)) f.2 (c - f.1)) W := by
  have hu : Tryd.prog.underlying 22 = some (.slice 5) := by kernel_rfl
  have hcl : Tryd.prog.cellsOf 5 = 1 := by kernel_rfl
  have h1 : (0 : Int) ≤ (f.1 : Int) := by omega
  have h2 : (f.1 : Int) ≤ (f.1 : Int) + (f.2 : Int) := by omega
  have h3 : (f.1 : Int) + (f.2 : Int) ≤ (c : Int) := by omega
  go_simp
  exact ⟨fun h => by omega, by omega⟩
set_option maxHeartbeats 8000000 in
set_option maxRecDepth 100000 in
theorem nums_iter (bl bb g : Nat) (F : List (Nat × Nat)) (ad : Addr) (c : Nat) (xs : List Int) (W : World) (R : Nat → Prop)
    (hl : W.heap[bl]? = some (.cells #[.slice (some ⟨g, 0, none⟩) F.length F.length] 55 (0, 0))) (hbx : W.heap[bb]? = some (.cells #[.slice (some ad) xs.length c] 22 (0, 0)))
    (hF : FTab W g F) (hx : Row8 W ad xs) (hb : BB xs) (hc : xs.length ≤ c) (hw : Within F xs.length) (hm : F.length ≤ 100) (hm2 : xs.length ≤ 1000000) (hg : g < W.heap.size) (ha : ad.block < W.heap.size) (hR : ∀ k, R k → k ≠ bl ∧ k ≠ bb ∧ k ≠ g ∧ k ≠ ad.block) :
    IterT Tryd.prog 40 #[.pointer (some ⟨bl, 0, none⟩), .pointer (some ⟨bb, 0, none⟩)] encZ (fun _ => False) R (numsL F xs F.length) W := by
  intro lp J hJ hY h0
  refine callsIn_wide.2 ?_
  simp only [List.append_toArray, List.cons_append, List.nil_append]
  have hsl : bl < W.heap.size := (Array.getElem?_eq_some_iff.1 hl).1
  have hsb : bb < W.heap.size := (Array.getElem?_eq_some_iff.1 hbx).1
  have ql := (cell_of_block hl).1
  have HBX := Aside0.mk hbx
  have HY := Aside0.mk hY
  have HRR := Aside0.mk hR
  have HF := Aside0.mk hF
  have HX := Aside0.mk hx
  have HB := Aside0.mk hb
  have HW := Aside0.mk hw
  obtain ⟨n, hn⟩ : ∃ n, F.length = n := ⟨_, rfl⟩
  have HN := Aside0.mk hn
  obtain ⟨m, hm'⟩ : ∃ m, xs.length = m := ⟨_, rfl⟩
  have HM := Aside0.mk hm'
  rw [hn] at ql hm hY
  rw [hm'] at hbx hc hm2
  rw [hn]
  have HBX := Aside0.mk hbx
  have HY := Aside0.mk hY
  clear hY hR hl hbx hF hx hb hw hn hm'
  have hu57 := Tryd.underlying57
  go_enter Tryd.func40, Tryd.ntmps40
  go_wp2_with fail
  clear ql
  go_loopw [8] (fun v wr => ∃ i : Nat, i ≤ n ∧ v = .int .i64 (i : Int) ∧ J (numsL F xs i) wr ∧ Keeps (fun k => R k ∨ W.heap.size ≤ k) W wr) (fun v _ => ((n : Int) - intOf v).toNat)
  case atStart => exact ⟨0, by omega, rfl, h0, Keeps.refl _ _⟩
  case round =>
    obtain ⟨i, hi, rfl, hj, hk⟩ := hrel
    have HJ' := Aside0.mk hj
    have HK := Aside0.mk hk
    have hnb : ∀ k, k < W.heap.size → (k = bl ∨ k = bb ∨ k = g ∨ k = ad.block) → ¬ (R k ∨ W.heap.size ≤ k) := fun k hk he h => by
      rcases h with h | h
      · have := HRR.out _ h; omega
      · omega
    have HNB := Aside0.mk hnb
    have HBX' := Aside0.mk (hk.at_ HBX.out (hnb bb hsb (.inr (.inl rfl))))
    clear hj hk hnb h0
    by_cases hin : i < n
    · obtain ⟨suf, hs⟩ := numsL_split F xs hin
      have hf : F[i]? = some (F.getD i (0, 0)) := by rw [List.getD_eq_getElem?_getD, List.getElem?_eq_getElem (by rw [HN.out]; exact hin)]; rfl
      have hq := HF.out i _ hf
      have hwf := HW.out _ (List.mem_of_getElem? hf)
      rw [HM.out] at hwf
      have q0 := HK.out.cell hq.1 (HNB.out g hg (.inr (.inr (.inl rfl))))
      have q1 := HK.out.cell hq.2 (HNB.out g hg (.inr (.inr (.inl rfl))))
      have hrow : Row8 wr ad xs := fun j hj => HK.out.cell (HX.out j hj) (by rw [block_add]; exact HNB.out _ ha (.inr (.inr (.inr rfl))))
      have HROW := Aside0.mk hrow
      have HS := Aside0.mk hs
      have e1 : decide ((i : Int) < (n : Int)) = true := decide_eq_true (by omega)
      generalize hfe : F.getD i (0, 0) = f at *
      have HFE := Aside0.mk hfe
      have HWF := Aside0.mk hwf
      have hix := fun W => index_field g n i hin W
      clear hs hf hq hwf hrow hfe
      go_upto_region 3 with (fail)
      have hb2 : Below wr.heap.size wr (wr.alloc (.cells #[.int .i64 (f.1 : Int), .int .i64 (f.2 : Int)] 57)) := bX_ (Below.refl _ _) _
      have hn2 := World.alloc_heap_new wr (.cells #[.int .i64 (f.1 : Int), .int .i64 (f.2 : Int)] 57)
      have hrow2 : Row8 (wr.alloc (.cells #[.int .i64 (f.1 : Int), .int .i64 (f.2 : Int)] 57)) ad xs := fun j hj => pw_cell_below hb2 (HROW.out j hj)
      have HBX2 := Aside0.mk (heap_below hb2 HBX'.out)
      have HJ2 := Aside0.mk (hJ _ _ _ HJ'.out (Keeps.of_below hb2 (fun _ h _ => h)))
      have HK2 := Aside0.mk (HK.out.trans (Keeps.of_below (S := fun k => R k ∨ W.heap.size ≤ k) hb2 (fun _ h _ => h)))
      generalize wr.alloc (.cells #[.int .i64 (f.1 : Int), .int .i64 (f.2 : Int)] 57) = w2 at *
      generalize wr.heap.size = g2 at *
      have r0 : w2.cell? ⟨g2, 0, none⟩ = some (.int .i64 (f.1 : Int)) := by rw [bC_ hn2]; rfl
      have r1 : w2.cell? ⟨g2, 1, none⟩ = some (.int .i64 (f.2 : Int)) := by rw [bC_ hn2]; rfl
      have qb := (cell_of_block HBX2.out).1
      have hsl := fun W => slice_field ad m c f HWF.out hc W
      have hsm : IntKind.i64.wrap ((f.1 : Int) + (f.2 : Int)) = (f.1 : Int) + (f.2 : Int) := by rw [IntKind.wrap_i64]; have := HWF.out; omega
      have HROW2 := Aside0.mk hrow2
      clear hb2 hn2 hrow2 q0 q1 e1 hix HROW HBX' HJ' HK
      refine (wpIn_wide (n := 0)).1 ?_
      gi_wp2
      refine ⟨trivial, rfl, callsIn_wide.2 ((number_at ad c xs f _ rfl _ (by rw [HM.out]; exact HWF.out) (by rw [HM.out]; exact hc) HROW2.out HB.out).mono ?_)⟩
      rintro e w3 ⟨rfl, hb3⟩
      have HJ3 := hJ _ _ _ HJ2.out (Keeps.of_below hb3 (fun _ h _ => h))
      have HK3 := Aside0.mk (HK2.out.trans (Keeps.of_below (S := fun k => R k ∨ W.heap.size ≤ k) hb3 (fun _ h _ => h)))
      obtain ⟨yf, ytmps, yassign, ybody, hy, hround⟩ := HY.out (numsL F xs i) (i, fieldN xs f) suf w3 HS.out HJ3
      simp only [encZ] at hy
      clear hb3 HJ3 r0 r1 qb hsl hsm
      gi_wp2
      refine ⟨rfl, hround.mono ?_⟩
      rintro e W3 ⟨rfl, hJ3, hk3⟩
      have HJ3 := Aside0.mk hJ3
      have HK4 := Aside0.mk hk3
      clear hJ3 hk3 hround hy
      gi_wp2
      go_wp2
      go_roundw
      case rel => exact ⟨i + 1, by omega, by go_num, by rw [numsL_succ, HFE.out]; exact HJ3.out, HK3.out.trans HK4.out⟩
      case measure => simp [intOf]; omega
    · have hie : i = n := by omega
      subst hie
      have e1 : decide ((i : Int) < (i : Int)) = false := decide_eq_false (by omega)
      go_wp2
      go_end0
      exact ⟨⟨_, rfl⟩, HJ'.out⟩
end Go.Proofs.YtopldeeojehklaaDoor.B
namespace Go.Proofs.YtopldeeojehklaaDoor.B
open Go.RowKit Go.Proofs.YtopldeeojehklaaDoorW.PrintWords Go.Proofs.YtopldeeojehklaaDoorW.PrintMore Go.RF
set_option linter.unusedVariables false
set_option linter.unusedSimpArgs false
attribute [local go_sem] Oper.semAt_some
set_option maxHeartbeats 8000000 in
set_option maxRecDepth 100000 in
theorem numbers_calls (A1 A2 : Option Addr) (n1 c1 n2 c2 : Nat) (w : World) : Calls Tryd.prog 35 #[.slice A1 n1 c1, .slice A2 n2 c2] w fun e w' => e = .returned (.func (.func 40) #[] #[.pointer (some ⟨w.heap.size + 1, 0, none⟩), .pointer (some ⟨w.heap.size, 0, none⟩)]) ∧
    w'.heap[w.heap.size + 1]? = some (.cells #[.slice A2 n2 c2] 55 (0, 0)) ∧ w'.heap[w.heap.size]? = some (.cells #[.slice A1 n1 c1] 22 (0, 0)) ∧ w'.heap.size = w.heap.size + 2 ∧ Below w.heap.size w w' := by
  go_enter Tryd.func35, Tryd.ntmps35
  go_wp2_with fail
  go_ret
  have b0 := World.alloc_heap_new w (.cells #[.slice A1 n1 c1] 22)
  have b1 := World.alloc_heap_new (w.alloc (.cells #[.slice A1 n1 c1] 22)) (.cells #[.slice A2 n2 c2] 55)
  rw [World.size_alloc] at b1
  exact ⟨rfl, b1, heap_below (bX_ (Below.refl _ _) _) b0, by simp, bX_ (bX_ (Below.refl _ _) _) _⟩
set_option maxHeartbeats 8000000 in
set_option maxRecDepth 100000 in
theorem taken_own (ad : Addr) (c : Nat) (xs : List Int) (g : Nat) (F : List (Nat × Nat)) (w : World) (hF : FTab w g F) (hx : Row8 w ad xs) (hb : BB xs) (hc : xs.length ≤ c) (hw : Within F xs.length) (hm : F.length ≤ 100) (hm2 : xs.length ≤ 1000000) (hg : g < w.heap.size) (ha : ad.block < w.heap.size) : Calls Tryd.prog 25 #[.slice (some ad) xs.length c, .slice (some ⟨g, 0, none⟩) F.length F.length] w fun e w' => ∃ v, e = .returned v ∧ w'.ownsRow w.heap.size 23 1 v (numsL F xs F.length).length (nums .u64 ((numsL F xs F.length).map (·.2))) ∧ Below w.heap.size w w' := by
  have HLEN := Aside0.mk (show (numsL F xs F.length).length ≤ 100 by rw [numsL_length]; exact hm)
  have HFT := Aside0.mk hF
  have HRO := Aside0.mk hx
  have HBB := Aside0.mk hb
  have HC := Aside0.mk hc
  have HWI := Aside0.mk hw
  have HFL := Aside0.mk hm
  have HXL := Aside0.mk hm2
  have HG := Aside0.mk hg
  have HA := Aside0.mk ha
  clear hF hx hb hc hw hm hm2 hg ha
  refine calls_of_marks Tryd.func25 rfl ?_
  simp only [Tryd.ntmps25, List.size_toArray, List.length_cons, List.length_nil, Nat.reduceAdd, Nat.reduceSub, Array.replicate_succ, Array.replicate_zero, List.push_toArray, List.append_toArray, List.nil_append, List.cons_append]
  go_upto_region 1 with (fail)
  have b0 := World.alloc_heap_new w (.cells #[.slice none 0 0] 53)
  have hbl : Below w.heap.size w (w.alloc (.cells #[.slice none 0 0] 53)) := bX_ (Below.refl _ _) _
  have hs1 : (w.alloc (.cells #[.slice none 0 0] 53)).heap.size = w.heap.size + 1 := World.size_alloc _ _
  have hk1 : Keeps (fun _ => False) w (w.alloc (.cells #[.slice none 0 0] 53)) := (Keeps.refl _ _).alloc _
  generalize w.alloc (.cells #[.slice none 0 0] 53) = w1 at *
  have B0 := Aside0.mk b0
  have HBL := Aside0.mk hbl
  have HK1 := Aside0.mk hk1
  clear b0 hbl hk1
  go_wp2_with (go_at_call 35; refine (numbers_calls (some ad) (some ⟨g, 0, none⟩) xs.length c F.length F.length _).mono ?_; rintro e w2 ⟨rfl, hv1, hv2, hsz, hb⟩)
  rw [hs1] at hv1 hv2 hsz
  have HV1 := Aside0.mk hv1
  have HV2 := Aside0.mk hv2
  have HSZ := Aside0.mk (show w2.heap.size = w.heap.size + 3 from hsz)
  have HFT2 := Aside0.mk (show FTab w2 g F from fun i f hf => ⟨pw_cell_below (HBL.out.trans (hb.mono (by omega))) (HFT.out i f hf).1, pw_cell_below (HBL.out.trans (hb.mono (by omega))) (HFT.out i f hf).2⟩)
  have HRO2 := Aside0.mk (show Row8 w2 ad xs from fun j hj => pw_cell_below (HBL.out.trans (hb.mono (by omega))) (HRO.out j hj))
  clear hv1 hv2 hsz
  have HB2 := Aside0.mk (HBL.out.trans (hb.mono (by omega)))
  have B0' := Aside0.mk (heap_below hb B0.out)
  clear hb B0
  refine wp_rangeT (α := Nat × Int) (gf := 40) rfl (enters_of Tryd.func40 (by kernel_rfl) rfl) (encs := encZ) (Q := fun _ => False) (R := fun k => k = w.heap.size) (L := numsL F xs F.length)
    (fun W hk => nums_iter _ _ g F ad c xs W _ (hk.at_ HV1.out (fun h => h)) (hk.at_ HV2.out (fun h => h)) (fun i f hf => ⟨hk.cell (HFT2.out i f hf).1 (fun h => h), hk.cell (HFT2.out i f hf).2 (fun h => h)⟩) (fun j hj => hk.cell (HRO2.out j hj) (fun h => h)) HBB.out HC.out HWI.out HFL.out HXL.out
      (by have := hk.size; have := HSZ.out; have := HG.out; omega) (by have := hk.size; have := HSZ.out; have := HA.out; omega) (fun k h => by have := HSZ.out; have := HG.out; have := HA.out; omega))
    (fun k h => h.elim) (fun k h => by have := HSZ.out; omega) (fun _ => rfl)
    (fun pre W => Below w.heap.size w W ∧ ∃ v, W.heap[w.heap.size]? = some (.cells #[v] 53 (0, 0)) ∧ W.ownsRow (w2.heap.size + 2) 23 1 v pre.length (nums .u64 (pre.map (·.2))))
    (fun s A B hs' hk => ⟨hs'.1.trans (hk.below hs'.1.size (fun k hk' h => by have := HSZ.out; exact h.elim id (fun h => by omega))), by
      obtain ⟨v, h1, h2⟩ := hs'.2
      exact ⟨v, hk.at_ h1 (by have := HSZ.out; exact fun h => h.elim id (fun h => by omega)), own_move h2 (fun k hk' => hk.block k (own_lt h2 k hk') (by have := own_base h2 k hk'; have := HSZ.out; exact fun h => h.elim id (fun h => by omega)))⟩⟩)
    ⟨HB2.out, _, B0'.out, own_nil _ _ _ _⟩
    ?_ ?assign ?body ?done
  case assign =>
    intro lp x W K hK
    simp only [encZ]
    gi_wp2
    exact hK
  case done =>
    rintro W ⟨hB, v, h1, h2⟩ hd
    obtain ⟨Av, cv, rfl⟩ := own_slice h2
    have c1 := (cell_of_block h1).1
    have f1 := (cell_of_block h1).2
    have HB := Aside0.mk hB
    have H1 := Aside0.mk h1
    have H2 := Aside0.mk h2
    have HDD := Aside0.mk hd
    clear hB h1 h2 hd
    go_wp2
    have h1' := blk_store H1.out (Value.slice Av (numsL F xs F.length).length cv)
    have hsz2 := HSZ.out
    refine leave_mark (D := w2.heap.size) (v := .slice Av (numsL F xs F.length).length cv) rfl ((Below.heap_setCell W _ _ w2.heap.size (by show w2.heap.size ≠ w.heap.size; omega)).trans HDD.out) ?_ ?_
    · have hc := (cell_of_block ((World.putObj_heap_other (r := w2.heap.size) (o := .deferred none) (by omega)).trans h1')).1
      simp [results, Tryd.f25, go_sem, hc]
    · have hkp : Keeps (fun k => k = w.heap.size ∨ k = w2.heap.size) W ((W.setCell ⟨w.heap.size, 0, none⟩ (.slice Av (numsL F xs F.length).length cv)).putObj w2.heap.size (.deferred none)) :=
        ((Keeps.refl _ W).setCell _ _ (.inl rfl)).putObj _ _ (.inr rfl)
      refine ⟨_, rfl, own_weaken (own_move H2.out (fun k hk => hkp.block k (own_lt H2.out k hk) (by have := own_base H2.out k hk; omega))) (by omega), HB.out.trans (hkp.below HB.out.size (fun k hk h => by omega))⟩
  case body =>
    rintro lp pre x suf W hL hsz' ⟨hB, v, h1, h2⟩
    obtain ⟨Av, cv, rfl⟩ := own_slice h2
    have htot : pre.length + 1 ≤ 1000 := by have e := congrArg List.length hL; rw [List.length_append, List.length_cons] at e; have := HLEN.out; omega
    have c1 := (cell_of_block h1).1
    have f1 := (cell_of_block h1).2
    have HB := Aside0.mk hB
    have H1 := Aside0.mk h1
    obtain ⟨i0, hi, hzz⟩ := Option.map_eq_some_iff.1 infoU
    simp only [Prod.mk.injEq] at hzz
    obtain ⟨hz0, hz1, hz2⟩ := hzz
    clear hB h1
    have hne : ∀ k, (Value.slice Av pre.length cv).ownBlock = some k → k ≠ w.heap.size := fun k hk => by have := own_base h2 k hk; have := HSZ.out; omega
    gi_wp2_with (gi_at_builtin; go_loud (refine wpListIn_append_own _ rfl _ _ 53 rfl (w2.heap.size + 2) 23 i0 (.int .u64 0) 1 8 Tryd.underlying53 hi hz0 hz1 hz2 rfl (by decide) (.slice Av pre.length cv) pre.length (nums .u64 (pre.map (·.2))) rfl ?o1 ⟨W.heap.size, 0, none⟩ 1 _ [.int .u64 x.2] rfl ?c1 ?cc ?c2 ?c3 ?c4 ?c5 ?_))
    case o1 => exact own_move h2 (fun k hk => Below.heap_alloc _ _ _ (own_lt h2 k hk))
    case c1 => rfl
    case cc =>
      intro j u hu
      cases j with
      | zero =>
        simp only [List.getElem?_cons_zero, Option.some.injEq] at hu
        subst hu
        exact (cell_of_block (World.alloc_heap_new W _)).1
      | succ j => simp at hu
    case c2 => intro u hu; simp only [List.mem_singleton] at hu; subst hu; rfl
    case c3 => unfold maxLen; omega
    case c4 => omega
    case c5 => rw [World.size_alloc]; omega
    intro v' W' hown' hgrow _
    obtain ⟨A', c', rfl⟩ := own_slice hown'
    have h1' := (hgrow.block w.heap.size (by have := (Array.getElem?_eq_some_iff.1 H1.out).1; rw [World.size_alloc]; omega) (fun e => hne _ e.symm rfl)).trans (heap_below (bX_ (Below.refl _ _) _) H1.out)
    have c1' := (cell_of_block h1').1
    have f1' := (cell_of_block h1').2
    have H1' := Aside0.mk h1'
    have HO' := Aside0.mk hown'
    have HG' := Aside0.mk hgrow
    have HO := Aside0.mk h2
    clear h1' hown' hgrow c1 f1 hne h2
    gi_wp2
    have hkp : Keeps (fun k => k = w.heap.size ∨ w2.heap.size + 2 ≤ k) W (W'.setCell ⟨w.heap.size, 0, none⟩ (.slice A' (pre.length + 1) c')) :=
      Keeps.setCell (Keeps.trans ((Keeps.refl _ W).alloc _) (Keeps.of_grown HG'.out (fun k e => .inr (own_base HO.out k e)))) _ _ (.inl rfl)
    have hsz2 := HSZ.out
    refine ⟨hkp, HB.out.trans (hkp.below HB.out.size (fun k hk h => by omega)), _, blk_store H1'.out _, ?_⟩
    rw [List.map_append, List.map_cons, List.map_nil, show (pre ++ [x]).length = pre.length + 1 by simp, nums_append]
    exact own_move HO'.out (fun k hk => Below.heap_setCell W' _ _ k (by have := own_base HO'.out k hk; show k ≠ w.heap.size; omega))
theorem taken_calls (ad : Addr) (c : Nat) (xs : List Int) (g : Nat) (F : List (Nat × Nat)) (w : World) (hF : FTab w g F) (hx : Row8 w ad xs) (hb : BB xs) (hc : xs.length ≤ c) (hw : Within F xs.length) (hm : F.length ≤ 100) (hm2 : xs.length ≤ 1000000) (hg : g < w.heap.size) (ha : ad.block < w.heap.size) :
    Calls Tryd.prog 25 #[.slice (some ad) xs.length c, .slice (some ⟨g, 0, none⟩) F.length F.length] w fun e w' => ∃ v, e = .returned v ∧ w'.ownsRow w.heap.size 23 1 v F.length (nums .u64 (F.map (fieldN xs))) ∧ Below w.heap.size w w' := by
  refine (taken_own ad c xs g F w hF hx hb hc hw hm hm2 hg ha).mono ?_
  rintro e w' ⟨v, rfl, h, hb⟩
  rw [numsL_length, numsL_snd] at h
  exact ⟨v, rfl, h, hb⟩
end Go.Proofs.YtopldeeojehklaaDoor.B
