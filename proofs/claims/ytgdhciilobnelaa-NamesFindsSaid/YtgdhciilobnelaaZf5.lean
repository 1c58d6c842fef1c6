/- Small words on blocks, rows of bytes, numbers. Comparing symbols, looking for the first section, the first symbol that fits; a part of bytes. names.Find, names.Same, names.part. -/
import Derived.Test.YtgdhciilobnelaaProg
import Derived.Below
import Derived.Deep.Draws
import Derived.Deep.AppendLies
import Derived.Maps.AppendAt
import Derived.OwnWalk
import Derived.Laws.BytesArg
import Derived.Laws.MakeOwn
import Derived.Laws.OwnMore
import Derived.Deep.OwnRows
import Derived.Tactics
import Derived.Lib.ConvBytes
import Derived.Laws.Slices
import Derived.WalkKit
import Derived.KernelRfl
import Derived.RowKit3
import Derived.Deep.LoopGhost
import Derived.Deep.QuietTactic
import Derived.BigQuiet
import Derived.WideLaws
import Derived.Deep.DeepCutAuto
import Derived.Deep.CutBlock
import Derived.Deep.RegionHeld3
import Derived.Laws.Rows
import Derived.Lib.AppendStr
import Derived.ArgAppend
import Derived.Laws.IdiomCopy
import Derived.OrdersHeld
import Derived.Laws.BitsLemmas
import Derived.RowKit
import Derived.Test.YtgdhciilobnelaaZf1
import Derived.Test.YtgdhciilobnelaaZf2
import Derived.Test.YtgdhciilobnelaaZf3
import Derived.Test.YtgdhciilobnelaaZf4
import Derived.Laws.CopyRow
import Derived.Laws.CopyOwn
import Derived.WalkMore
import Derived.Lib.Bytes
namespace Go.Proofs.Ytgdhciilobnelaa.B
open Go.RowKit Go.Proofs.YtgdhciilobnelaaW.PrintWords Go.Proofs.YtgdhciilobnelaaW.PrintLast Go.Proofs.YtgdhciilobnelaaW.PrintMore
attribute [local go_sem] max2_int min2_int max_two min_two max_three min_three max_four min_four   -- for this text's walks alone
set_option linter.unusedVariables false
set_option linter.unusedSimpArgs false
def errW : Option Int → Value
  | none => .nilIface
  | some c => .iface 0 (.int .i64 c)
theorem errW_none : errW none = .nilIface := rfl
theorem errW_some (c : Int) : errW (some c) = .iface 0 (.int .i64 c) := rfl
theorem info5 : (Try.prog.info? 5).map (fun i => (i.zero, i.size, i.bytes)) = some (some (.int .u8 0), 1, 1) := by kernel_rfl
theorem info38 : (Try.prog.info? 38).map (fun i => (i.zero, i.size, i.bytes)) = some (some (.agg #[(.string ⟨#[]⟩), (.int .u64 0), (.int .u64 0), (.bool false)]), 4, 40) := by kernel_rfl
structure S45 where
  f0 : Int
  f1 : Int
  f2 : Int
  f3 : Int
  f4 : Int
def z45 : S45 := ⟨(0 : Int), (0 : Int), (0 : Int), (0 : Int), (0 : Int)⟩
def k45 : Kd S45 := Kd.iso (Kd.pair (Kd.int .u32) (Kd.pair (Kd.int .u64) (Kd.pair (Kd.int .u64) (Kd.pair (Kd.int .u32) (Kd.int .u64))))) (fun x : S45 => (x.f0, x.f1, x.f2, x.f3, x.f4))
theorem k45_open {w : World} {x : S45} {cs : List Value} (h : k45.K w x cs) : cs = [.int .u32 x.f0, .int .u64 x.f1, .int .u64 x.f2, .int .u32 x.f3, .int .u64 x.f4] := by
  obtain ⟨_, _, rfl, rfl, ⟨_, _, rfl, rfl, ⟨_, _, rfl, rfl, ⟨_, _, rfl, rfl, rfl⟩⟩⟩⟩ := h
  exact rfl
theorem k45_mkM (w : World) (base : Nat) (ok : Nat → Prop) (x : S45)  : k45.M w base ok x [.int .u32 x.f0, .int .u64 x.f1, .int .u64 x.f2, .int .u32 x.f3, .int .u64 x.f4] := ⟨[.int .u32 x.f0], [.int .u64 x.f1, .int .u64 x.f2, .int .u32 x.f3, .int .u64 x.f4], rfl, rfl, ⟨[.int .u64 x.f1], [.int .u64 x.f2, .int .u32 x.f3, .int .u64 x.f4], rfl, rfl, ⟨[.int .u64 x.f2], [.int .u32 x.f3, .int .u64 x.f4], rfl, rfl, ⟨[.int .u32 x.f3], [.int .u64 x.f4], rfl, rfl, rfl⟩⟩⟩⟩
def rd_T45 (xs : List S45) (i : Int) : S45 := xs.getD i.toNat z45
theorem at_T45 {w : World} {A : Option Addr} {n : Nat} {xs : List S45} (h : Kd.C k45 w A n xs) (i : Int) (h0 : 0 ≤ i) (h1 : i < n) : ∃ ad , A = some ad ∧ w.cell? (ad.add (i.toNat * 5)) = some (.int .u32 (rd_T45 xs i).f0) ∧ w.cell? ⟨(ad.add (i.toNat * 5)).block, (ad.add (i.toNat * 5)).off + 1, none⟩ = some (.int .u64 (rd_T45 xs i).f1) ∧ w.cell? ⟨(ad.add (i.toNat * 5)).block, (ad.add (i.toNat * 5)).off + 2, none⟩ = some (.int .u64 (rd_T45 xs i).f2) ∧ w.cell? ⟨(ad.add (i.toNat * 5)).block, (ad.add (i.toNat * 5)).off + 3, none⟩ = some (.int .u32 (rd_T45 xs i).f3) ∧ w.cell? ⟨(ad.add (i.toNat * 5)).block, (ad.add (i.toNat * 5)).off + 4, none⟩ = some (.int .u64 (rd_T45 xs i).f4) := by
  obtain ⟨ad, c, e, _, hK, hc0⟩ := Kd.C_get h z45 i h0 h1
  have hc : ∀ j u, c[j]? = some u → w.cell? (ad.add (i.toNat * 5 + j)) = some u := hc0
  obtain rfl := k45_open hK
  exact ⟨ad, e, hc 0 _ rfl, by rw [← add_field _ _ 1 (by omega)]; exact hc 1 _ rfl, by rw [← add_field _ _ 2 (by omega)]; exact hc 2 _ rfl, by rw [← add_field _ _ 3 (by omega)]; exact hc 3 _ rfl, by rw [← add_field _ _ 4 (by omega)]; exact hc 4 _ rfl⟩
structure S38 where
  f0 : ByteArray
  f1 : Int
  f2 : Int
  f3 : Bool
def z38 : S38 := ⟨(⟨#[]⟩ : ByteArray), (0 : Int), (0 : Int), false⟩
def k38 : Kd S38 := Kd.iso (Kd.pair Kd.string (Kd.pair (Kd.int .u64) (Kd.pair (Kd.int .u64) Kd.bool))) (fun x : S38 => (x.f0, x.f1, x.f2, x.f3))
theorem k38_open {w : World} {x : S38} {cs : List Value} (h : k38.K w x cs) : cs = [.string x.f0, .int .u64 x.f1, .int .u64 x.f2, .bool x.f3] := by
  obtain ⟨_, _, rfl, rfl, ⟨_, _, rfl, rfl, ⟨_, _, rfl, rfl, rfl⟩⟩⟩ := h
  exact rfl
theorem k38_openM {w : World} {base : Nat} {ok : Nat → Prop} {x : S38} {cs : List Value} (h : k38.M w base ok x cs) : cs = [.string x.f0, .int .u64 x.f1, .int .u64 x.f2, .bool x.f3] := by
  obtain ⟨_, _, rfl, rfl, ⟨_, _, rfl, rfl, ⟨_, _, rfl, rfl, rfl⟩⟩⟩ := h
  exact rfl
theorem k38_mk (w : World) (x : S38)  : k38.K w x [.string x.f0, .int .u64 x.f1, .int .u64 x.f2, .bool x.f3] := ⟨[.string x.f0], [.int .u64 x.f1, .int .u64 x.f2, .bool x.f3], rfl, rfl, ⟨[.int .u64 x.f1], [.int .u64 x.f2, .bool x.f3], rfl, rfl, ⟨[.int .u64 x.f2], [.bool x.f3], rfl, rfl, rfl⟩⟩⟩
theorem k38_mkM (w : World) (base : Nat) (ok : Nat → Prop) (x : S38)  : k38.M w base ok x [.string x.f0, .int .u64 x.f1, .int .u64 x.f2, .bool x.f3] := ⟨[.string x.f0], [.int .u64 x.f1, .int .u64 x.f2, .bool x.f3], rfl, rfl, ⟨[.int .u64 x.f1], [.int .u64 x.f2, .bool x.f3], rfl, rfl, ⟨[.int .u64 x.f2], [.bool x.f3], rfl, rfl, rfl⟩⟩⟩
def rd_T38 (xs : List S38) (i : Int) : S38 := xs.getD i.toNat z38
theorem at_T38 {w : World} {A : Option Addr} {n : Nat} {xs : List S38} (h : Kd.C k38 w A n xs) (i : Int) (h0 : 0 ≤ i) (h1 : i < n) : ∃ ad , A = some ad ∧ w.cell? (ad.add (i.toNat * 4)) = some (.string (rd_T38 xs i).f0) ∧ w.cell? ⟨(ad.add (i.toNat * 4)).block, (ad.add (i.toNat * 4)).off + 1, none⟩ = some (.int .u64 (rd_T38 xs i).f1) ∧ w.cell? ⟨(ad.add (i.toNat * 4)).block, (ad.add (i.toNat * 4)).off + 2, none⟩ = some (.int .u64 (rd_T38 xs i).f2) ∧ w.cell? ⟨(ad.add (i.toNat * 4)).block, (ad.add (i.toNat * 4)).off + 3, none⟩ = some (.bool (rd_T38 xs i).f3) := by
  obtain ⟨ad, c, e, _, hK, hc0⟩ := Kd.C_get h z38 i h0 h1
  have hc : ∀ j u, c[j]? = some u → w.cell? (ad.add (i.toNat * 4 + j)) = some u := hc0
  obtain rfl := k38_open hK
  exact ⟨ad, e, hc 0 _ rfl, by rw [← add_field _ _ 1 (by omega)]; exact hc 1 _ rfl, by rw [← add_field _ _ 2 (by omega)]; exact hc 2 _ rfl, by rw [← add_field _ _ 3 (by omega)]; exact hc 3 _ rfl⟩
structure S100 where
  f0 : Int
  f1 : Int
  f2 : Int
  f3 : Int
  f4 : Int
  f5 : Int
  f6 : Int
structure S41 where
  f0 : ByteArray
  f1 : Int
  f2 : Int
  f3 : Int
  f4 : Int
def z41 : S41 := ⟨(⟨#[]⟩ : ByteArray), (0 : Int), (0 : Int), (0 : Int), (0 : Int)⟩
def k41 : Kd S41 := Kd.iso (Kd.pair Kd.string (Kd.pair (Kd.int .u8) (Kd.pair (Kd.int .u16) (Kd.pair (Kd.int .u64) (Kd.int .u64))))) (fun x : S41 => (x.f0, x.f1, x.f2, x.f3, x.f4))
theorem k41_open {w : World} {x : S41} {cs : List Value} (h : k41.K w x cs) : cs = [.string x.f0, .int .u8 x.f1, .int .u16 x.f2, .int .u64 x.f3, .int .u64 x.f4] := by
  obtain ⟨_, _, rfl, rfl, ⟨_, _, rfl, rfl, ⟨_, _, rfl, rfl, ⟨_, _, rfl, rfl, rfl⟩⟩⟩⟩ := h
  exact rfl
theorem k41_mkM (w : World) (base : Nat) (ok : Nat → Prop) (x : S41)  : k41.M w base ok x [.string x.f0, .int .u8 x.f1, .int .u16 x.f2, .int .u64 x.f3, .int .u64 x.f4] := ⟨[.string x.f0], [.int .u8 x.f1, .int .u16 x.f2, .int .u64 x.f3, .int .u64 x.f4], rfl, rfl, ⟨[.int .u8 x.f1], [.int .u16 x.f2, .int .u64 x.f3, .int .u64 x.f4], rfl, rfl, ⟨[.int .u16 x.f2], [.int .u64 x.f3, .int .u64 x.f4], rfl, rfl, ⟨[.int .u64 x.f3], [.int .u64 x.f4], rfl, rfl, rfl⟩⟩⟩⟩
def rd_T41 (xs : List S41) (i : Int) : S41 := xs.getD i.toNat z41
theorem at_T41 {w : World} {A : Option Addr} {n : Nat} {xs : List S41} (h : Kd.C k41 w A n xs) (i : Int) (h0 : 0 ≤ i) (h1 : i < n) : ∃ ad , A = some ad ∧ w.cell? (ad.add (i.toNat * 5)) = some (.string (rd_T41 xs i).f0) ∧ w.cell? ⟨(ad.add (i.toNat * 5)).block, (ad.add (i.toNat * 5)).off + 1, none⟩ = some (.int .u8 (rd_T41 xs i).f1) ∧ w.cell? ⟨(ad.add (i.toNat * 5)).block, (ad.add (i.toNat * 5)).off + 2, none⟩ = some (.int .u16 (rd_T41 xs i).f2) ∧ w.cell? ⟨(ad.add (i.toNat * 5)).block, (ad.add (i.toNat * 5)).off + 3, none⟩ = some (.int .u64 (rd_T41 xs i).f3) ∧ w.cell? ⟨(ad.add (i.toNat * 5)).block, (ad.add (i.toNat * 5)).off + 4, none⟩ = some (.int .u64 (rd_T41 xs i).f4) := by
  obtain ⟨ad, c, e, _, hK, hc0⟩ := Kd.C_get h z41 i h0 h1
  have hc : ∀ j u, c[j]? = some u → w.cell? (ad.add (i.toNat * 5 + j)) = some u := hc0
  obtain rfl := k41_open hK
  exact ⟨ad, e, hc 0 _ rfl, by rw [← add_field _ _ 1 (by omega)]; exact hc 1 _ rfl, by rw [← add_field _ _ 2 (by omega)]; exact hc 2 _ rfl, by rw [← add_field _ _ 3 (by omega)]; exact hc 3 _ rfl, by rw [← add_field _ _ 4 (by omega)]; exact hc 4 _ rfl⟩
structure S30 where
  f0 : Int
  f1 : Int
  f2 : Int
  f3 : (List S100)
  f4 : (List S45)
end Go.Proofs.Ytgdhciilobnelaa.B
namespace Go.Proofs.Ytgdhciilobnelaa.B
open Go.RowKit Go.Lib Go.Proofs.YtgdhciilobnelaaW.PrintWords Go.Proofs.YtgdhciilobnelaaW.PrintLast Go.Proofs.YtgdhciilobnelaaW.PrintMore Go.RF
set_option linter.unusedVariables false
set_option linter.unusedSimpArgs false
attribute [local go_sem] Oper.semAt_some
attribute [local go_sem] max2_int min2_int max_two min_two
theorem cell_of_block {W : World} {b : Nat} {v : Value} {t : Nat} (h : W.heap[b]? = some (.cells #[v] t (0, 0))) : W.cell? ⟨b, 0, none⟩ = some v ∧ W.frozen? ⟨b, 0, none⟩ = false := by
  unfold World.cell? World.frozen?
  simp [h]
theorem blk_store {W : World} {b : Nat} {v : Value} {t : Nat} (h : W.heap[b]? = some (.cells #[v] t (0, 0))) (u : Value) : (W.setCell ⟨b, 0, none⟩ u).heap[b]? = some (.cells #[u] t (0, 0)) := by
  obtain ⟨hb, e⟩ := Array.getElem?_eq_some_iff.1 h
  show (W.heap.modify b _)[b]? = _
  rw [Array.getElem?_modify, h]
  simp
theorem blk_set1 {W : World} {b : Nat} {cs : Array Value} {t : Nat} (h : W.heap[b]? = some (.cells cs t (0, 0))) (i : Nat) (u : Value) : (W.setCell ⟨b, i, none⟩ u).heap[b]? = some (.cells (cs.setIfInBounds i u) t (0, 0)) := by
  obtain ⟨hb, e⟩ := Array.getElem?_eq_some_iff.1 h
  show (W.heap.modify b _)[b]? = _
  rw [Array.getElem?_modify, h]
  simp
theorem heap_below {w w1 : World} (hb : Below w.heap.size w w1) {k : Nat} {o : Obj} (h : w.heap[k]? = some o) : w1.heap[k]? = some o := (hb.block k (Array.getElem?_eq_some_iff.1 h).1).trans h
theorem block_add (ad : Addr) (n : Nat) : (ad.add n).block = ad.block := by unfold Addr.add; split <;> rfl
theorem wrapU {x : Int} (h0 : 0 ≤ x) (h1 : x < 18446744073709551616) : IntKind.u64.wrap x = x := by
  rw [IntKind.wrap_u64]; omega
def Rg (x : Int) : Prop := 0 ≤ x ∧ x < 18446744073709551616
def byteN (x : Int) (i : Nat) : Int := x / 2 ^ (8 * i) % 256
def bytesN (x : Int) (n : Nat) : List Int := (List.range n).map (byteN x)
theorem bytesN_succ (x : Int) (n : Nat) : bytesN x (n + 1) = bytesN x n ++ [byteN x n] := by simp [bytesN, List.range_succ]
theorem bytesN_length (x : Int) (n : Nat) : (bytesN x n).length = n := by simp [bytesN]
theorem infoB : (Try.prog.info? 5).map (fun i => (i.zero, i.size, i.bytes)) = some (some (.int .u8 0), 1, 1) := by kernel_rfl
def Row8 (w : World) (ad : Addr) (xs : List Int) : Prop := ∀ j, j < xs.length → w.cell? (ad.add j) = some (.int .u8 (xs.getD j 0))
def numLE : List Int → Int
  | [] => 0
  | x :: r => x + 256 * numLE r
def BB (xs : List Int) : Prop := ∀ x ∈ xs, 0 ≤ x ∧ x < 256
theorem numLE_nn : ∀ {xs : List Int}, BB xs → 0 ≤ numLE xs ∧ numLE xs < 256 ^ xs.length
  | [], _ => ⟨Int.le_refl 0, by decide⟩
  | x :: r, h => by
    have h1 := h x (List.mem_cons_self)
    have h2 := numLE_nn (xs := r) (fun y hy => h y (List.mem_cons_of_mem _ hy))
    have e : (256 : Int) ^ (x :: r).length = 256 * 256 ^ r.length := by rw [List.length_cons, Int.pow_succ, Int.mul_comm]
    rw [e]
    show 0 ≤ x + 256 * numLE r ∧ x + 256 * numLE r < 256 * 256 ^ r.length
    generalize (256 : Int) ^ r.length = p at *
    omega
theorem numLE_append (xs : List Int) (c : Int) : numLE (xs ++ [c]) = numLE xs + c * 256 ^ xs.length := by
  induction xs with
  | nil => simp [numLE]
  | cons x r ih =>
    show x + 256 * numLE (r ++ [c]) = x + 256 * numLE r + c * 256 ^ (r.length + 1)
    rw [ih, Int.pow_succ, Int.mul_add, ← Int.mul_assoc, ← Int.mul_assoc, Int.mul_comm 256 c, Int.mul_assoc c 256, Int.mul_comm 256 (256 ^ r.length), ← Int.mul_assoc]
    omega
theorem pow256 (i : Nat) : (256 : Int) ^ i = 2 ^ (8 * i) := by
  induction i with
  | zero => rfl
  | succ i ih => rw [Int.pow_succ, ih, show 8 * (i + 1) = 8 * i + 8 by omega, Int.pow_add]; rfl
theorem or_add (a c : Int) (i : Nat) (hi : i < 8) (h0 : 0 ≤ a) (h1 : a < 2 ^ (8 * i)) (c0 : 0 ≤ c) (c1 : c < 256) : Go.bits .or .u64 a (c * 2 ^ (8 * i)) = a + c * 2 ^ (8 * i) := by
  obtain ⟨a', rfl⟩ : ∃ n : Nat, a = n := ⟨a.toNat, by omega⟩
  obtain ⟨c', rfl⟩ : ∃ n : Nat, c = n := ⟨c.toNat, by omega⟩
  have e : ((c' : Int) * 2 ^ (8 * i)) = ((c' <<< (8 * i) : Nat) : Int) := by rw [Nat.shiftLeft_eq]; simp
  have ha : a' < 2 ^ (8 * i) := by exact_mod_cast h1
  have hc : c' < 256 := by omega
  have hp : 2 ^ (8 * i) ≤ 2 ^ 56 := Nat.pow_le_pow_right (by decide) (by omega)
  have hp0 : 0 < 2 ^ (8 * i) := Nat.pow_pos (by decide)
  have e56 : (2 : Nat) ^ 56 = 72057594037927936 := by decide
  have e64 : (2 : Nat) ^ 64 = 18446744073709551616 := by decide
  have hsl : c' <<< (8 * i) = c' * 2 ^ (8 * i) := Nat.shiftLeft_eq _ _
  have hmul : c' * 2 ^ (8 * i) ≤ 255 * 2 ^ (8 * i) := Nat.mul_le_mul_right _ (by omega)
  rw [e]
  show IntKind.u64.wrap ((BitVec.ofInt 64 (a' : Int) ||| BitVec.ofInt 64 ((c' <<< (8 * i) : Nat) : Int)).toNat : Int) = _
  simp only [BitVec.ofInt_natCast, BitVec.toNat_or, BitVec.toNat_ofNat]
  rw [Nat.mod_eq_of_lt (show a' < 2 ^ 64 by omega), Nat.mod_eq_of_lt (show c' <<< (8 * i) < 2 ^ 64 by omega), Nat.or_comm, ← Nat.shiftLeft_add_eq_or_of_lt ha]
  rw [hsl]
  generalize 2 ^ (8 * i) = p at *
  rw [wrapU (by omega) (by omega)]
  omega
theorem shl_wrap (c : Int) (i : Nat) (hi : i < 8) (c0 : 0 ≤ c) (c1 : c < 256) : IntKind.u64.wrap (c * 2 ^ (8 * i)) = c * 2 ^ (8 * i) := by
  have hp : (2 : Int) ^ (8 * i) ≤ 2 ^ 56 := by exact_mod_cast Nat.pow_le_pow_right (n := 2) (by decide) (show 8 * i ≤ 56 by omega)
  have hp0 : (0 : Int) < 2 ^ (8 * i) := Int.pow_pos (by decide)
  have e56 : (2 : Int) ^ 56 = 72057594037927936 := by decide
  refine wrapU (Int.mul_nonneg c0 (by omega)) ?_
  have h1 : c * 2 ^ (8 * i) ≤ 255 * 2 ^ (8 * i) := Int.mul_le_mul_of_nonneg_right (by omega) (by omega)
  omega
theorem shl_run (c : Int) (i : Nat) (hi : i < 8) (c0 : 0 ≤ c) (c1 : c < 256) (W : World) : Sem.run Try.prog (Op.shift BinOp.shl IntKind.u64 c IntKind.i64 (IntKind.i64.wrap (8 * (i : Int)))) W = .ok (.int .u64 (c * 2 ^ (8 * i))) W := by
  have h : IntKind.i64.wrap (8 * (i : Int)) = 8 * i := by rw [IntKind.wrap_i64]; omega
  rw [h]
  unfold Op.shift
  rw [if_neg (by omega)]
  have hm : min (8 * (i : Int)).toNat IntKind.u64.bits = 8 * i := by
    have : IntKind.u64.bits = 64 := rfl
    omega
  rw [hm]
  have hw := shl_wrap c i hi c0 c1
  show Sem.run Try.prog (pure (Value.int .u64 (IntKind.u64.wrap (c * 2 ^ (8 * i)))) : Sem Value) W = _
  rw [hw]
  rfl
theorem take_snoc (xs : List Int) (i : Nat) (h : i < xs.length) : xs.take (i + 1) = xs.take i ++ [xs.getD i 0] := by
  rw [List.take_succ_eq_append_getElem h, List.getD_eq_getElem?_getD, List.getElem?_eq_getElem h]
  rfl
theorem BB.take {xs : List Int} (h : BB xs) (i : Nat) : BB (xs.take i) := fun x hx => h x (List.mem_of_mem_take hx)
theorem BB.drop {xs : List Int} (h : BB xs) (i : Nat) : BB (xs.drop i) := fun x hx => h x (List.mem_of_mem_drop hx)
theorem BB.get {xs : List Int} (h : BB xs) (i : Nat) : 0 ≤ xs.getD i 0 ∧ xs.getD i 0 < 256 := by
  rw [List.getD_eq_getElem?_getD]
  cases e : xs[i]? with
  | none => exact ⟨Int.le_refl 0, by decide⟩
  | some v => exact h v (List.mem_of_getElem? e)
theorem num_step (xs : List Int) (hb : BB xs) (i : Nat) (h : i < xs.length) (h8 : xs.length ≤ 8) : Go.bits .or .u64 (numLE (xs.take i)) (xs.getD i 0 * 2 ^ (8 * i)) = numLE (xs.take (i + 1)) := by
  have hl : (xs.take i).length = i := by simp; omega
  have h1 := numLE_nn (hb.take i)
  rw [hl, pow256] at h1
  rw [take_snoc xs i h, numLE_append, hl, pow256]
  exact or_add _ _ i (by omega) h1.1 h1.2 (hb.get i).1 (hb.get i).2
set_option maxHeartbeats 8000000 in
set_option maxRecDepth 100000 in
theorem number_same (ad : Addr) (c : Nat) (xs : List Int) (w : World) (h1 : 1 ≤ xs.length) (h8 : xs.length ≤ 8) (hc : xs.length ≤ c) (hx : ∀ j, j < xs.length → w.cell? (ad.add j) = some (.int .u8 (xs.getD j 0))) (hb : BB xs) :
    Calls Try.prog 35 #[.slice (some ad) xs.length c] w fun e w' => e = .returned (.int .u64 (numLE xs)) ∧ w' = w := by
  have HX := Aside0.mk hx
  have HB := Aside0.mk hb
  clear hx hb
  obtain ⟨n, hn⟩ : ∃ n, xs.length = n := ⟨_, rfl⟩
  rw [hn] at h1 h8 hc
  have HN := Aside0.mk hn
  rw [hn]
  clear hn
  have e1 : mn (n : Int) 8 = (n : Int) := by unfold mn; omega
  have e2 : (n : Int) ≤ (c : Int) := by omega
  go_enter Try.func35, Try.ntmps35
  go_wp2
  clear e1 e2
  go_loopw [2, 11] (fun v t wr => ∃ i : Nat, i ≤ n ∧ t = .int .i64 (i : Int) ∧ v = .int .u64 (numLE (xs.take i)) ∧ wr = w) (fun _ t _ => ((n : Int) - intOf t).toNat)
  case atStart => exact ⟨0, by omega, rfl, rfl, rfl⟩
  case round =>
    obtain ⟨i, hi, rfl, rfl, rfl⟩ := hrel
    by_cases hin : i < n
    · have e1 : decide ((i : Int) < (n : Int)) = true := decide_eq_true (by omega)
      have hxi := HX.out i (by rw [HN.out]; exact hin)
      have hg := HB.out.get i
      have hsh := fun W => shl_run (xs.getD i 0) i (by omega) hg.1 hg.2 W
      have hor := num_step xs HB.out i (by rw [HN.out]; exact hin) (by rw [HN.out]; exact h8)
      have hwr := shl_wrap (xs.getD i 0) i (by omega) hg.1 hg.2
      rw [← hwr] at hor
      have HOR := Aside0.mk hor
      have HWY := Aside0.mk (wrapU hg.1 (show xs.getD i 0 < 18446744073709551616 by omega))
      clear hor hwr hg
      generalize xs.getD i 0 = y at *
      go_wp2
      go_roundw
      case rel => exact ⟨i + 1, by omega, by go_num, by rw [HWY.out, HOR.out], trivial⟩
      case measure => simp [intOf]; omega
    · have hie : i = n := by omega
      subst hie
      have e1 : decide ((i : Int) < (i : Int)) = false := decide_eq_false (by omega)
      go_wp2
      go_ret
      refine ⟨?_, rfl⟩
      rw [List.take_of_length_le (by rw [HN.out]; exact Nat.le_refl _)]
      rfl
theorem run_bin {P : Program} {o : Oper} {ρ : Operand → Value} {op : BinOp} {t yt : TypeId} {x y : Operand} {a b v : Value} {w : World} (ho : o.op = .binOp op t x y yt) (hx : ρ x = a) (hy : ρ y = b)
    (hg : (eqGuard op t x y a b).run P w = .ok () w) (h : (binOp op t a b).run P w = .ok v w) : (execOp ρ o).run P w = .ok (.value v) w := by
  unfold execOp
  simp only [ho, hx, hy, Sem.run_bind, hg, h, Result.andThen_ok, Sem.run_pure]
theorem run_load {P : Program} {o : Oper} {ρ : Operand → Value} {t : TypeId} {x : Operand} {a v : Value} {w : World} (ho : o.op = .load t x) (hx : ρ x = a) (h : (Instr.loadAt t a).run P w = .ok v w) : (execOp ρ o).run P w = .ok (.value v) w := by
  unfold execOp
  simp only [ho, hx, Sem.run_bind, h, Result.andThen_ok, Sem.run_pure]
theorem run_indexAddr {P : Program} {o : Oper} {ρ : Operand → Value} {t : TypeId} {x y : Operand} {a b v : Value} {w : World} (ho : o.op = .indexAddr t x y) (hx : ρ x = a) (hy : ρ y = b) (h : (Instr.indexAt t a b).run P w = .ok v w) : (execOp ρ o).run P w = .ok (.value v) w := by
  unfold execOp
  simp only [ho, hx, hy, Sem.run_bind, h, Result.andThen_ok, Sem.run_pure]
theorem addz (g k : Nat) : (⟨g, 0, none⟩ : Addr).add k = ⟨g, k, none⟩ := by
  unfold Addr.add
  split
  · rename_i h; rw [h]
  · simp
theorem run_slice2 {o : Oper} {ρ : Operand → Value} {x y z : Operand} {a b c v : Value} {w : World} (ho : o.op = .slice 23 x (some y) (some z) none) (hx : ρ x = a) (hy : ρ y = b) (hz : ρ z = c) (h : (Instr.slice 23 a (some b) (some c) none).run Try.prog w = .ok v w) :
    (execOp ρ o).run Try.prog w = .ok (.value v) w := by
  have hu : Try.prog.underlying 23 = some (.slice (Try.prog.elem 23)) := by kernel_rfl
  unfold execOp
  simp only [ho, Option.map_some, Option.map_none, hx, hy, hz, Sem.run_bind, run_sliceAt_slice _ _ _ _ _ _ hu, h, Result.andThen_ok, Sem.run_pure]
theorem load_cell {W : World} {ad : Addr} {t : TypeId} {k : IntKind} {x : Int} (hu : Try.prog.underlying t = some (.int k)) (h : W.cell? ad = some (.int k x)) : (Instr.loadAt t (.pointer (some ad))).run Try.prog W = .ok (.int k x) W := by
  have ha : (isAgg t).run Try.prog W = .ok false W := by unfold isAgg; rw [Sem.run_bind, run_underlying hu]; rfl
  go_simp
theorem add_i {x y : Int} (h0 : 0 ≤ x + y) (h1 : x + y < 1000000000) (w : World) : (binOp .add 3 (.int .i64 x) (.int .i64 y)).run Try.prog w = .ok (.int .i64 (x + y)) w := by
  have e : IntKind.i64.wrap (x + y) = x + y := by rw [IntKind.wrap_i64]; omega
  simp [binOp, Op.intArith, e]
theorem splice_len {L B : List Int} {k : Nat} (h : k + B.length ≤ L.length) : (splice L k B).length = L.length := length_splice L k B h
theorem row8_C {w : World} {ad : Addr} {xs : List Int} (h : Row8 w ad xs) (hn : xs.length ≤ 9223372036854775807) : Kd.C (Kd.int .u8) w (some ad) xs.length xs :=
  ⟨rfl, hn, fun _ => ⟨ad, rfl, fun j p hj => ⟨[.int .u8 p], rfl, rfl, fun i u hu => by
    cases i with
    | zero =>
      simp only [List.getElem?_cons_zero, Option.some.injEq] at hu
      subst hu
      have hjl := (List.getElem?_eq_some_iff.1 hj).1
      have := h j hjl
      rw [List.getD_eq_getElem?_getD, hj] at this
      simpa [Kd.int, Kd.scalar] using this
    | succ i => simp at hu⟩⟩⟩
theorem C_row8 {w : World} {A : Option Addr} {xs : List Int} (h : Kd.C (Kd.int .u8) w A xs.length xs) (hn : 0 < xs.length) : ∃ ad, A = some ad ∧ Row8 w ad xs := by
  obtain ⟨ad, e, hc⟩ := h.2.2 hn
  refine ⟨ad, e, fun j hj => ?_⟩
  obtain ⟨c, hcl, hK, hcell⟩ := hc j _ (List.getElem?_eq_getElem hj)
  have hK : c = [.int .u8 xs[j]] := hK
  have := hcell 0 (.int .u8 xs[j]) (by rw [hK]; rfl)
  rw [List.getD_eq_getElem?_getD, List.getElem?_eq_getElem hj]
  simpa [Kd.int, Kd.scalar] using this
def OB (b g cap : Nat) (xs : List Int) (w : World) : Prop :=
  b ≤ g ∧ ∃ cur : Array Value, w.heap[g]? = some (.cells cur 5 (0, 0)) ∧ xs.length ≤ cap ∧ cap ≤ maxLen ∧ cur.size = cap ∧ ∀ j, j < xs.length → cur[j]? = some (.int .u8 (xs.getD j 0))
theorem OB.of_R {b : Nat} {ok : Nat → Prop} {v : Value} {xs : List Int} {w : World} (h : Kd.R (Kd.int .u8) 5 w b ok v xs) (hn : 0 < xs.length) : ∃ g cap, v = .slice (some ⟨g, 0, none⟩) xs.length cap ∧ OB b g cap xs w := by
  obtain ⟨-, inner, ho, hr⟩ := h
  obtain ⟨hl, ⟨-, h0⟩ | ⟨g, cap, cur, rfl, hg, hh, h1, h2, h3, h4⟩⟩ := ho
  · omega
  · have hs : (Kd.int .u8).sz = 1 := rfl
    rw [hs, Nat.mul_one] at hl h4
    rw [hs, Nat.mul_one] at h3
    refine ⟨g, cap, rfl, hg, cur, hh, h1, h2, h3, fun j hj => ?_⟩
    have hj2 := hr.2 j _ (List.getElem?_eq_getElem hj)
    rw [hs] at hj2
    have hj3 : (inner.drop (j * 1)).take 1 = [Value.int .u8 xs[j]] := hj2
    rw [Nat.mul_one] at hj3
    have e1 : inner[j]? = some (.int .u8 xs[j]) := by
      have : ((inner.drop j).take 1)[0]? = some (.int .u8 xs[j]) := by rw [hj3]; rfl
      rw [List.getElem?_take, if_pos (by decide), List.getElem?_drop] at this
      exact this
    rw [← h4, List.getElem?_take, if_pos hj] at e1
    rw [List.getD_eq_getElem?_getD, List.getElem?_eq_getElem hj, ← Array.getElem?_toList]
    exact e1
theorem OB.row8 {b g cap : Nat} {xs : List Int} {w : World} (h : OB b g cap xs w) : Row8 w ⟨g, 0, none⟩ xs := by
  obtain ⟨hg, cur, hh, h1, h2, h3, h4⟩ := h
  intro j hj
  rw [addz, bC_ hh]
  exact h4 j hj
theorem OB.C {b g cap : Nat} {xs : List Int} {w : World} (h : OB b g cap xs w) : Kd.C (Kd.int .u8) w (some ⟨g, 0, none⟩) xs.length xs :=
  row8_C h.row8 (by obtain ⟨hg, cur, hh, h1, h2, h3, h4⟩ := h; unfold maxLen at h2; omega)
theorem OB.cap_le {b g cap : Nat} {xs : List Int} {w : World} (h : OB b g cap xs w) : xs.length ≤ cap := by obtain ⟨hg, cur, hh, h1, h2, h3, h4⟩ := h; exact h1
theorem OB.take {b g cap : Nat} {xs : List Int} {w : World} (h : OB b g cap xs w) (m : Nat) : OB b g cap (xs.take m) w := by
  obtain ⟨hg, cur, hh, h1, h2, h3, h4⟩ := h
  refine ⟨hg, cur, hh, by rw [List.length_take]; omega, h2, h3, fun j hj => ?_⟩
  rw [List.length_take] at hj
  rw [h4 j (by omega), List.getD_eq_getElem?_getD, List.getD_eq_getElem?_getD, List.getElem?_take, if_pos (by omega)]
theorem OB.met {b g cap : Nat} {xs : List Int} {w w' : World} (h : OB b g cap xs w) (hb : Below w.heap.size w w') : OB b g cap xs w' := by
  obtain ⟨hg, cur, hh, h1⟩ := h
  exact ⟨hg, cur, heap_below hb hh, h1⟩
theorem OB.farRow {b g cap : Nat} {xs : List Int} {w : World} (h : OB b g cap xs w) {p : Nat} (hp : g ≠ p) (cs : Array Value) : OB b g cap xs (w.setRow p cs) := by
  obtain ⟨hg, cur, hh, h1⟩ := h
  exact ⟨hg, cur, (setRow_other w p g cs hp).trans hh, h1⟩
theorem OB.set {b g cap : Nat} {xs : List Int} {w : World} (h : OB b g cap xs w) (j : Nat) (y : Int) : OB b g cap (xs.set j y) (w.setCell ⟨g, j, none⟩ (.int .u8 y)) := by
  obtain ⟨hg, cur, hh, h1, h2, h3, h4⟩ := h
  refine ⟨hg, _, blk_set hh j _, by rw [List.length_set]; exact h1, h2, by simp [h3], fun i hi => ?_⟩
  rw [List.length_set] at hi
  rw [Array.getElem?_setIfInBounds, List.getD_eq_getElem?_getD, List.getElem?_set]
  by_cases e : j = i
  · subst e
    rw [if_pos rfl, if_pos (by omega), if_pos rfl, if_pos hi]
    rfl
  · rw [if_neg e, if_neg e, h4 i hi, List.getD_eq_getElem?_getD]
theorem OB.frozen {b g cap : Nat} {xs : List Int} {w : World} (h : OB b g cap xs w) (j : Nat) : w.frozen? ⟨g, j, none⟩ = false := by
  obtain ⟨hg, cur, hh, h1⟩ := h
  exact bF_ hh j
theorem OB.cell {b g cap : Nat} {xs : List Int} {w : World} (h : OB b g cap xs w) (j : Nat) (hj : j < xs.length) : w.cell? ⟨g, j, none⟩ = some (.int .u8 (xs.getD j 0)) := by
  obtain ⟨hg, cur, hh, h1, h2, h3, h4⟩ := h
  rw [bC_ hh]
  exact h4 j hj
theorem OB.lt {b g cap : Nat} {xs : List Int} {w : World} (h : OB b g cap xs w) : g < w.heap.size := by
  obtain ⟨hg, cur, hh, h1⟩ := h
  exact blk_lt hh
theorem OB.ne {b g cap p t : Nat} {xs : List Int} {w : World} {cs : Array Value} (h : OB b g cap xs w) (hp : w.heap[p]? = some (.cells cs t (0, 0))) (ht : 5 ≠ t) : g ≠ p := by
  obtain ⟨hg, cur, hh, h1⟩ := h
  exact blk_ne hh hp ht
theorem OB.mono {b b' g cap : Nat} {xs : List Int} {w : World} (h : OB b g cap xs w) (hb : b' ≤ b) : OB b' g cap xs w := ⟨Nat.le_trans hb h.1, h.2⟩
theorem splice_get {α : Type} (L B : List α) (at_ n j : Nat) (hB : B.length = n) (hfit : at_ + n ≤ L.length) : (L.take at_ ++ (B ++ L.drop (at_ + n)))[j]? = if j < at_ then L[j]? else if j - at_ < n then B[j - at_]? else L[j]? := by
  have h1 : (L.take at_).length = at_ := by rw [List.length_take]; omega
  by_cases q1 : j < at_
  · rw [if_pos q1, List.getElem?_append_left (by omega), List.getElem?_take, if_pos q1]
  · rw [if_neg q1, List.getElem?_append_right (by omega), h1]
    by_cases q2 : j - at_ < n
    · rw [if_pos q2, List.getElem?_append_left (by omega)]
    · rw [if_neg q2, List.getElem?_append_right (by omega), hB, List.getElem?_drop]
      congr 1
      omega
theorem OB.copy {o : Oper} {ρ : Operand → Value} {x y : Operand} {w : World} {b g cap at_ n dc sc : Nat} {ad : Addr} {xs B : List Int} (h : OB b g cap xs w) (ho : o.op = .call { callee := .builtin .copy, args := #[x, y], argTypes := #[23, 23] })
    (hx : ρ x = .slice (some ⟨g, at_, none⟩) n dc) (hy : ρ y = .slice (some ad) n sc) (hB : B.length = n) (hs : ∀ j, j < n → w.cell? (ad.add j) = some (.int .u8 (B.getD j 0))) (hfit : at_ + n ≤ xs.length) :
    ∃ cs, (execOp ρ o).run Try.prog w = .ok (.value (goInt n)) (w.setRow g cs) ∧ OB b g cap (splice xs at_ B) (w.setRow g cs) := by
  obtain ⟨hg, cur, hh, h1, h2, h3, h4⟩ := h
  have hu : Try.prog.underlying 23 = some (.slice 5) := by kernel_rfl
  have hsz : (Try.prog.info? 5).map (·.size) = some 1 := by kernel_rfl
  have hl : (nums .u8 B).length = n := by simp [nums, hB]
  have hr := run_copy_row (P := Try.prog) w 23 23 o.type 5 g at_ n dc ad n sc cur 5 (nums .u8 B) hu hsz hh (by rw [hl]; exact (Nat.min_self n).symm) (fun j v hv => by
    have hj := (List.getElem?_eq_some_iff.1 hv).1
    rw [hl] at hj
    rw [hs j hj, ← hv]
    unfold nums
    rw [List.getElem?_map, List.getD_eq_getElem?_getD, List.getElem?_eq_getElem (by omega)]
    rfl) (by rw [hl]; omega) (fun v hv => by
      unfold nums at hv
      obtain ⟨a, _, rfl⟩ := List.mem_map.1 hv
      rfl)
  rw [hl] at hr
  obtain ⟨CS, hCS⟩ : ∃ CS, (cur.toList.take at_ ++ nums .u8 B ++ cur.toList.drop (at_ + n)).toArray = CS := ⟨_, rfl⟩
  rw [hCS] at hr
  refine ⟨CS, by unfold execOp; simp [ho, resolve, invoke, builtin, hx, hy, hr, Result.andThen], hg, CS, setRow_heap _ _ _ _ _ _ hh, by rw [length_splice _ _ _ (by rw [hB]; exact hfit)]; exact h1, h2, ?_, fun j hj => ?_⟩
  · rw [← hCS]
    simp only [List.size_toArray, List.length_append, List.length_take, List.length_drop, Array.length_toList, h3, hl]
    omega
  · rw [length_splice _ _ _ (by rw [hB]; exact hfit)] at hj
    have hc : cur.toList.length = cap := by simpa using h3
    have hcur : ∀ i, i < xs.length → cur.toList[i]? = some (.int .u8 (xs.getD i 0)) := fun i hi => by rw [Array.getElem?_toList]; exact h4 i hi
    rw [← hCS, List.getElem?_toArray, List.getD_eq_getElem?_getD]
    unfold splice
    rw [hB]
    simp only [List.append_assoc]
    rw [splice_get cur.toList (nums .u8 B) at_ n j hl (by omega), splice_get xs B at_ n j hB (by omega)]
    by_cases q1 : j < at_
    · rw [if_pos q1, if_pos q1, hcur j (by omega), List.getD_eq_getElem?_getD]
    · by_cases q2 : j - at_ < n
      · rw [if_neg q1, if_pos q2, if_neg q1, if_pos q2]
        unfold nums
        rw [List.getElem?_map, List.getElem?_eq_getElem (by omega)]
        rfl
      · rw [if_neg q1, if_neg q2, if_neg q1, if_neg q2, hcur j (by omega), List.getD_eq_getElem?_getD]
theorem OB.copyE {o : Oper} {ρ : Operand → Value} {x y : Operand} {w : World} {b g cap at_ n dc sc : Nat} {ad : Addr} {xs B : List Int} {G : World → Prop} (h : OB b g cap xs w) (ho : o.op = .call { callee := .builtin .copy, args := #[x, y], argTypes := #[23, 23] })
    (hx : ρ x = .slice (some ⟨g, at_, none⟩) n dc) (hy : ρ y = .slice (some ad) n sc) (hB : B.length = n) (hs : ∀ j, j < n → w.cell? (ad.add j) = some (.int .u8 (B.getD j 0))) (hfit : at_ + n ≤ xs.length)
    (hG : ∀ cs, OB b g cap (splice xs at_ B) (w.setRow g cs) → G (w.setRow g cs)) :
    ∃ w', ((execOp ρ o).run Try.prog w = .ok (.value (goInt n)) w' ∨ ((execOp ρ o).run Try.prog w = .ok .skip w' ∧ goInt n = undef)) ∧ G w' := by
  obtain ⟨cs, hr, hO⟩ := h.copy ho hx hy hB hs hfit
  exact ⟨_, .inl hr, hG cs hO⟩
theorem slice_ab (g n cap a b : Nat) (h1 : a < b) (h2 : b ≤ cap) (W : World) :
    (Instr.slice 23 (.slice (some ⟨g, 0, none⟩) n cap) (some (.int .i64 (a : Int))) (some (.int .i64 (b : Int))) none).run Try.prog W = .ok (.slice (some ⟨g, a, none⟩) (b - a) (cap - a)) W := by
  have hu : Try.prog.underlying 23 = some (.slice 5) := by kernel_rfl
  have hcl : Try.prog.cellsOf 5 = 1 := by kernel_rfl
  have k1 : (0 : Int) ≤ (a : Int) := by omega
  have k2 : (a : Int) ≤ (b : Int) := by omega
  have k3 : (b : Int) ≤ (cap : Int) := by omega
  have k4 : ¬ cap = a := by omega
  go_simp
theorem emod_mul' (m p : Nat) : (m : Int) % (p : Int) + (m : Int) / (p : Int) % 256 * (p : Int) = (m : Int) % ((p : Int) * 256) := by
  have h := Nat.mod_mul (x := m) (a := p) (b := 256)
  have h2 : ((m % (p * 256) : Nat) : Int) = ((m % p + p * (m / p % 256) : Nat) : Int) := by rw [h]
  simp only [Int.natCast_add, Int.natCast_mul, Int.natCast_emod, Int.natCast_ediv] at h2
  rw [Int.mul_comm ((m : Int) / (p : Int) % 256)]
  exact h2.symm
theorem numLE_bytesN (x : Int) (h0 : 0 ≤ x) : ∀ n, numLE (bytesN x n) = x % 2 ^ (8 * n)
  | 0 => by simp [bytesN, numLE]
  | n + 1 => by
    rw [bytesN_succ, numLE_append, numLE_bytesN x h0 n, bytesN_length, pow256]
    unfold byteN
    rw [show 8 * (n + 1) = 8 * n + 8 by omega, Int.pow_add, show (2 : Int) ^ 8 = 256 by decide]
    obtain ⟨m, rfl⟩ : ∃ m : Nat, x = m := ⟨x.toNat, by omega⟩
    have e : (2 : Int) ^ (8 * n) = ((2 ^ (8 * n) : Nat) : Int) := by rw [Int.natCast_pow]; rfl
    rw [e]
    exact emod_mul' m _
theorem num_back {x : Int} {n : Nat} (h0 : 0 ≤ x) (h1 : x < 2 ^ (8 * n)) : numLE (bytesN x n) = x := by
  rw [numLE_bytesN x h0 n, Int.emod_eq_of_lt h0 h1]
def b2 (x : Int) : List Int := [byteN x 0, byteN x 1]
def b4 (x : Int) : List Int := [byteN x 0, byteN x 1, byteN x 2, byteN x 3]
def b8 (x : Int) : List Int := [byteN x 0, byteN x 1, byteN x 2, byteN x 3, byteN x 4, byteN x 5, byteN x 6, byteN x 7]
theorem num_b2 {x : Int} (h0 : 0 ≤ x) (h1 : x < 65536) : numLE (b2 x) = x := num_back (n := 2) h0 (by simpa using h1)
theorem num_b4 {x : Int} (h0 : 0 ≤ x) (h1 : x < 4294967296) : numLE (b4 x) = x := num_back (n := 4) h0 (by simpa using h1)
theorem num_b8 {x : Int} (h : Rg x) : numLE (b8 x) = x := num_back (n := 8) h.1 (by have := h.2; simpa using this)
theorem BB_append {l r : List Int} (h1 : BB l) (h2 : BB r) : BB (l ++ r) := by
  intro x hx
  rcases List.mem_append.1 hx with h | h
  · exact h1 x h
  · exact h2 x h
end Go.Proofs.Ytgdhciilobnelaa.B
namespace Go.Proofs.Ytgdhciilobnelaa.B
open Go.RowKit Go.Lib Go.Proofs.YtgdhciilobnelaaW.PrintWords Go.Proofs.YtgdhciilobnelaaW.PrintLast Go.Proofs.YtgdhciilobnelaaW.PrintMore Go.RF
set_option linter.unusedVariables false
set_option linter.unusedSimpArgs false
attribute [local go_sem] max2_int min2_int max_two min_two
def encS (s : S38) : Array Value := #[.string s.f0, .int .u64 s.f1, .int .u64 s.f2, .bool s.f3]
def cmpI (x y : Int) : Int := if x < y then -1 else if y < x then 1 else 0
theorem isNaN_calls (x : Int) (w : World) : Calls Try.prog 39 #[.int .u64 x] w fun e w' => e = .returned (.bool false) ∧ w' = w := by
  go_enter Try.func39, Try.ntmps39
  go_wp2
  go_ret
  exact ⟨rfl, rfl⟩
set_option maxHeartbeats 8000000 in
set_option maxRecDepth 100000 in
theorem compare_calls (x y : Int) (w : World) : Calls Try.prog 31 #[.int .u64 x, .int .u64 y] w fun e w' => e = .returned (.int .i64 (cmpI x y)) ∧ w' = w := by
  by_cases h1 : x < y
  · have d1 : decide (x < y) = true := decide_eq_true h1
    have e : cmpI x y = -1 := by unfold cmpI; rw [if_pos h1]
    rw [e]
    clear h1 e
    go_enter Try.func31, Try.ntmps31
    go_wp2_with (go_at_call 39; refine (isNaN_calls _ _).mono ?_; rintro e w1 ⟨rfl, rfl⟩)
    go_ret
    exact ⟨rfl, rfl⟩
  · have d1 : decide (x < y) = false := decide_eq_false h1
    by_cases h2 : y < x
    · have d2 : decide (y < x) = true := decide_eq_true h2
      have e : cmpI x y = 1 := by unfold cmpI; rw [if_neg h1, if_pos h2]
      rw [e]
      clear h1 h2 e
      go_enter Try.func31, Try.ntmps31
      go_wp2_with (go_at_call 39; refine (isNaN_calls _ _).mono ?_; rintro e w1 ⟨rfl, rfl⟩)
      go_ret
      exact ⟨rfl, rfl⟩
    · have d2 : decide (y < x) = false := decide_eq_false h2
      have e : cmpI x y = 0 := by unfold cmpI; rw [if_neg h1, if_neg h2]
      rw [e]
      clear h1 h2 e
      go_enter Try.func31, Try.ntmps31
      go_wp2_with (go_at_call 39; refine (isNaN_calls _ _).mono ?_; rintro e w1 ⟨rfl, rfl⟩)
      go_ret
      exact ⟨rfl, rfl⟩
set_option maxHeartbeats 8000000 in
set_option maxRecDepth 100000 in
theorem cmp_calls (a b : S38) (w : World) : Calls Try.prog 30 #[.agg (encS a), .agg (encS b)] w fun e w' => e = .returned (.int .i64 (cmpI a.f1 b.f1)) ∧ Below w.heap.size w w' := by
  obtain ⟨a0, a1, a2, a3⟩ := a
  obtain ⟨b0, b1, b2, b3⟩ := b
  unfold encS
  go_enter Try.func30, Try.ntmps30
  go_wp2_with (first | ((with_reducible refine gate_dst (N := 2) rfl ?_); refine box_event ?hg (N := 2) ?hd (cs := #[.string a0, .int .u64 a1, .int .u64 a2, .bool a3]) (t := 38) ?hr ?_; (case hd => rfl); (case hg => rfl); (case hr => first | (go_simp; done) | (go_simp; rfl)); intro ga hg w1 hbox hb; have HB := Aside0.mk hb; have BKa := Aside0.mk hbox; clear hg hbox hb) | ((with_reducible refine gate_dst (N := 3) rfl ?_); refine box_event ?hg (N := 3) ?hd (cs := #[.string b0, .int .u64 b1, .int .u64 b2, .bool b3]) (t := 38) ?hr ?_; (case hd => rfl); (case hg => rfl); (case hr => first | (go_simp; done) | (go_simp; rfl)); intro gb hg w2 hbox hb; have HB2 := Aside0.mk (below_step HB.out hb); have hc1 : w2.cell? ⟨ga, 1, none⟩ = some (.int .u64 a1) := (bC_ (heap_below hb BKa.out) 1).trans rfl; have hc2 : w2.cell? ⟨gb, 1, none⟩ = some (.int .u64 b1) := (bC_ hbox 1).trans rfl; clear hg hbox hb) | (go_at_call 31; refine (compare_calls _ _ _).mono ?_; rintro e w1 ⟨rfl, rfl⟩))
  go_ret
  exact ⟨rfl, HB2.out⟩
def firstI {α : Type} (p : α → Bool) : List α → Nat → Int
  | [], _ => -1
  | x :: r, i => if p x = true then (i : Int) else firstI p r (i + 1)
def intOf : Value → Int | .int _ n => n | _ => 0
theorem el45 {w : World} {A : Option Addr} {C : List S45} {n : Nat} (h : Kd.C k45 w A C.length C) (hn : C.length = n) (i : Nat) (hi : i < n) : ∃ ad, A = some ad ∧ C.drop i = C.getD i z45 :: C.drop (i + 1) ∧ w.cell? (ad.add (i * 5)) = some (.int .u32 (C.getD i z45).f0) ∧ w.cell? ⟨(ad.add (i * 5)).block, (ad.add (i * 5)).off + 1, none⟩ = some (.int .u64 (C.getD i z45).f1) ∧ w.cell? ⟨(ad.add (i * 5)).block, (ad.add (i * 5)).off + 2, none⟩ = some (.int .u64 (C.getD i z45).f2) ∧ w.cell? ⟨(ad.add (i * 5)).block, (ad.add (i * 5)).off + 3, none⟩ = some (.int .u32 (C.getD i z45).f3) ∧ w.cell? ⟨(ad.add (i * 5)).block, (ad.add (i * 5)).off + 4, none⟩ = some (.int .u64 (C.getD i z45).f4) := by
  subst hn
  obtain ⟨ad, e, h0, h1, h2, h3, h4⟩ := at_T45 h (i : Int) (by omega) (by omega)
  rw [Int.toNat_natCast] at h0 h1 h2 h3 h4
  unfold rd_T45 at h0 h1 h2 h3 h4
  rw [Int.toNat_natCast] at h0 h1 h2 h3 h4
  exact ⟨ad, e, by rw [List.drop_eq_getElem_cons hi, List.getD_eq_getElem?_getD, List.getElem?_eq_getElem hi]; rfl, h0, h1, h2, h3, h4⟩
theorem el38 {w : World} {A : Option Addr} {C : List S38} {n : Nat} (h : Kd.C k38 w A C.length C) (hn : C.length = n) (i : Nat) (hi : i < n) : ∃ ad, A = some ad ∧ C.drop i = C.getD i z38 :: C.drop (i + 1) ∧ w.cell? (ad.add (i * 4)) = some (.string (C.getD i z38).f0) ∧ w.cell? ⟨(ad.add (i * 4)).block, (ad.add (i * 4)).off + 1, none⟩ = some (.int .u64 (C.getD i z38).f1) ∧ w.cell? ⟨(ad.add (i * 4)).block, (ad.add (i * 4)).off + 2, none⟩ = some (.int .u64 (C.getD i z38).f2) ∧ w.cell? ⟨(ad.add (i * 4)).block, (ad.add (i * 4)).off + 3, none⟩ = some (.bool (C.getD i z38).f3) := by
  subst hn
  obtain ⟨ad, e, h0, h1, h2, h3⟩ := at_T38 h (i : Int) (by omega) (by omega)
  rw [Int.toNat_natCast] at h0 h1 h2 h3
  unfold rd_T38 at h0 h1 h2 h3
  rw [Int.toNat_natCast] at h0 h1 h2 h3
  exact ⟨ad, e, by rw [List.drop_eq_getElem_cons hi, List.getD_eq_getElem?_getD, List.getElem?_eq_getElem hi]; rfl, h0, h1, h2, h3⟩
set_option maxHeartbeats 8000000 in
set_option maxRecDepth 100000 in
theorem isSyms_calls (s0 s1 s2 s3 s4 : Int) (w : World) : Calls Try.prog 20 #[.agg #[.int .u32 s0, .int .u64 s1, .int .u64 s2, .int .u32 s3, .int .u64 s4]] w fun e w' => e = .returned (.bool (s0 == 2)) ∧ Below w.heap.size w w' := by
  go_enter Try.func20, Try.ntmps20
  go_wp2_with ((with_reducible refine gate_dst (N := 1) rfl ?_); refine box_event ?hg (N := 1) ?hd (cs := #[.int .u32 s0, .int .u64 s1, .int .u64 s2, .int .u32 s3, .int .u64 s4]) (t := 45) ?hr ?_; (case hd => rfl); (case hg => rfl); (case hr => first | (go_simp; done) | (go_simp; rfl)); intro g1 hg w1 hbox hb; have HB := Aside0.mk hb; have hc0 : w1.cell? ⟨g1, 0, none⟩ = some (.int .u32 s0) := (bC_ hbox 0).trans rfl; clear hg hbox hb)
  go_ret
  exact ⟨rfl, HB.out⟩
set_option maxHeartbeats 8000000 in
set_option maxRecDepth 100000 in
theorem index_sec (A : Option Addr) (c n : Nat) (C : List S45) (w : World) (hC : Kd.C k45 w A C.length C) (hn : C.length = n) (hm : n ≤ 1000000) :
    Calls Try.prog 19 #[.slice A n c, .func (.func 20) #[] #[]] w fun e w' => e = .returned (.int .i64 (firstI (fun s => s.f0 == 2) C 0)) ∧ Below w.heap.size w w' := by
  have HC := Aside0.mk hC
  have HN := Aside0.mk hn
  clear hC hn
  go_enter Try.func19, Try.ntmps19
  go_wp2
  go_loopw [8] (fun t wr => ∃ i : Nat, i ≤ n ∧ t = .int .i64 (i : Int) ∧ firstI (fun s => s.f0 == 2) C 0 = firstI (fun s => s.f0 == 2) (C.drop i) i ∧ Below w.heap.size w wr) (fun t _ => ((n : Int) - intOf t).toNat)
  case atStart => exact ⟨0, by omega, rfl, rfl, Below.refl _ _⟩
  case round =>
    obtain ⟨i, hi, rfl, hf, hbw⟩ := hrel
    have HB := Aside0.mk hbw
    have HF := Aside0.mk hf
    clear hbw hf
    by_cases hin : i < n
    · have e1 : decide ((i : Int) < (n : Int)) = true := decide_eq_true (by omega)
      have p1 : 0 ≤ (i : Int) := by omega
      have q1 : (i : Int) < (n : Int) := by omega
      obtain ⟨ad, ea, hd, hx0, hx1, hx2, hx3, hx4⟩ := el45 (Kd.C_below HC.out HB.out) HN.out i hin
      cases ea
      have HD := Aside0.mk hd
      replace p1 := eq_true p1
      replace q1 := eq_true q1
      generalize C.getD i z45 = y at *
      clear hd
      obtain ⟨y0, y1, y2, y3, y4⟩ := y
      by_cases hk : y0 = 2
      · have k1 : (y0 == 2) = true := by simp [hk]
        have HK := Aside0.mk k1
        clear hk
        go_wp2_with (go_at_call 20; refine (isSyms_calls y0 y1 y2 y3 y4 _).mono ?_; rintro e w1 ⟨rfl, hb⟩; have HB2 := Aside0.mk (below_step HB.out hb); clear hb)
        go_ret
        exact ⟨by rw [HF.out, HD.out, firstI, if_pos HK.out]; rfl, HB2.out⟩
      · have k1 : (y0 == 2) = false := by simp [hk]
        have HK := Aside0.mk k1
        clear hk
        go_wp2_with (go_at_call 20; refine (isSyms_calls y0 y1 y2 y3 y4 _).mono ?_; rintro e w1 ⟨rfl, hb⟩; have HB2 := Aside0.mk (below_step HB.out hb); clear hb)
        go_roundw
        case rel => exact ⟨i + 1, by omega, by go_num, by rw [HF.out, HD.out, firstI, if_neg (by rw [HK.out]; decide)], HB2.out⟩
        case measure => simp [intOf]; omega
    · have hie : i = n := by omega
      subst hie
      have e1 : decide ((i : Int) < (i : Int)) = false := decide_eq_false (by omega)
      go_wp2
      go_ret
      exact ⟨by rw [HF.out, List.drop_of_length_le (by rw [HN.out]; exact Nat.le_refl _)]; rfl, HB.out⟩
end Go.Proofs.Ytgdhciilobnelaa.B
namespace Go.Proofs.Ytgdhciilobnelaa.B
open Go.RowKit Go.Proofs.YtgdhciilobnelaaW.PrintWords Go.Proofs.YtgdhciilobnelaaW.PrintLast Go.Proofs.YtgdhciilobnelaaW.PrintMore
attribute [local go_sem] max2_int min2_int max_two min_two max_three min_three max_four min_four   -- for this text's walks alone
set_option linter.unusedVariables false
set_option linter.unusedSimpArgs false
theorem eqA38 (d : Nat) (w : World) (x0 y0 : ByteArray) (x1 y1 : Int) (x2 y2 : Int) (x3 y3 : Bool) :
    (Op.equalIn (d + 2) 38 (.agg #[.string x0, .int .u64 x1, .int .u64 x2, .bool x3]) (.agg #[.string y0, .int .u64 y1, .int .u64 y2, .bool y3])).run Try.prog w = .ok (x0.toList == y0.toList && (x1 == y1 && (x2 == y2 && (x3 == y3)))) w := by
  refine eqA_of Try.underlying38 (by kernel_rfl) ?_
  refine eqf_cons (by rfl) (by go_simp; rfl) (by go_simp; rfl) (by go_simp) ?_
  refine eqf_cons (by rfl) (by go_simp; rfl) (by go_simp; rfl) (by go_simp) ?_
  refine eqf_cons (by rfl) (by go_simp; rfl) (by go_simp; rfl) (by go_simp) ?_
  exact eqf_last (by rfl) (by go_simp; rfl) (by go_simp; rfl) (by go_simp)
end Go.Proofs.Ytgdhciilobnelaa.B
namespace Go.Proofs.Ytgdhciilobnelaa.B
open Go.RowKit Go.Lib Go.Proofs.YtgdhciilobnelaaW.PrintWords Go.Proofs.YtgdhciilobnelaaW.PrintLast Go.Proofs.YtgdhciilobnelaaW.PrintMore Go.RF
set_option linter.unusedVariables false
set_option linter.unusedSimpArgs false
attribute [local go_sem] max2_int min2_int max_two min_two
set_option maxHeartbeats 8000000 in
set_option maxRecDepth 100000 in
theorem hits_calls (gn : Nat) (nm x0 : ByteArray) (x1 x2 : Int) (x3 : Bool) (w : World) (hn : w.heap[gn]? = some (.cells #[.string nm] 9 (0, 0))) :
    Calls Try.prog 28 #[.agg #[.string x0, .int .u64 x1, .int .u64 x2, .bool x3], .pointer (some ⟨gn, 0, none⟩)] w fun e w' => e = .returned (.bool (x3 && (x0.toList == nm.toList))) ∧ Below w.heap.size w w' := by
  have HNM := Aside0.mk hn
  clear hn
  cases x3
  · go_enter Try.func28, Try.ntmps28
    go_wp2_with ((with_reducible refine gate_dst (N := 2) rfl ?_); refine box_event ?hg (N := 2) ?hd (cs := #[.string x0, .int .u64 x1, .int .u64 x2, .bool false]) (t := 38) ?hr ?_; (case hd => rfl); (case hg => rfl); (case hr => first | (go_simp; done) | (go_simp; rfl)); intro g2 hg w1 hbox hb; have HB := Aside0.mk hb; have hc0 : w1.cell? ⟨g2, 0, none⟩ = some (.string x0) := (bC_ hbox 0).trans rfl; have hc3 : w1.cell? ⟨g2, 3, none⟩ = some (.bool false) := (bC_ hbox 3).trans rfl; have hcn : w1.cell? ⟨gn, 0, none⟩ = some (.string nm) := (bC_ (heap_below hb HNM.out) 0).trans rfl; clear hg hbox hb)
    go_ret
    exact ⟨rfl, HB.out⟩
  · go_enter Try.func28, Try.ntmps28
    go_wp2_with ((with_reducible refine gate_dst (N := 2) rfl ?_); refine box_event ?hg (N := 2) ?hd (cs := #[.string x0, .int .u64 x1, .int .u64 x2, .bool true]) (t := 38) ?hr ?_; (case hd => rfl); (case hg => rfl); (case hr => first | (go_simp; done) | (go_simp; rfl)); intro g2 hg w1 hbox hb; have HB := Aside0.mk hb; have hc0 : w1.cell? ⟨g2, 0, none⟩ = some (.string x0) := (bC_ hbox 0).trans rfl; have hc3 : w1.cell? ⟨g2, 3, none⟩ = some (.bool true) := (bC_ hbox 3).trans rfl; have hcn : w1.cell? ⟨gn, 0, none⟩ = some (.string nm) := (bC_ (heap_below hb HNM.out) 0).trans rfl; clear hg hbox hb)
    go_ret
    exact ⟨rfl, HB.out⟩
set_option maxHeartbeats 8000000 in
set_option maxRecDepth 100000 in
theorem index_sym (A : Option Addr) (c n gn : Nat) (nm : ByteArray) (C : List S38) (w : World) (hC : Kd.C k38 w A C.length C) (hn : C.length = n) (hm : n ≤ 1000000) (hnm : w.heap[gn]? = some (.cells #[.string nm] 9 (0, 0))) :
    Calls Try.prog 27 #[.slice A n c, .func (.func 28) #[] #[.pointer (some ⟨gn, 0, none⟩)]] w fun e w' => e = .returned (.int .i64 (firstI (fun s => s.f3 && (s.f0.toList == nm.toList)) C 0)) ∧ Below w.heap.size w w' := by
  have HC := Aside0.mk hC
  have HN := Aside0.mk hn
  have HNM := Aside0.mk hnm
  clear hC hn hnm
  go_enter Try.func27, Try.ntmps27
  go_wp2
  go_loopw [8] (fun t wr => ∃ i : Nat, i ≤ n ∧ t = .int .i64 (i : Int) ∧ firstI (fun s => s.f3 && (s.f0.toList == nm.toList)) C 0 = firstI (fun s => s.f3 && (s.f0.toList == nm.toList)) (C.drop i) i ∧ Below w.heap.size w wr) (fun t _ => ((n : Int) - intOf t).toNat)
  case atStart => exact ⟨0, by omega, rfl, rfl, Below.refl _ _⟩
  case round =>
    obtain ⟨i, hi, rfl, hf, hbw⟩ := hrel
    have HB := Aside0.mk hbw
    have HF := Aside0.mk hf
    clear hbw hf
    by_cases hin : i < n
    · have e1 : decide ((i : Int) < (n : Int)) = true := decide_eq_true (by omega)
      have p1 : 0 ≤ (i : Int) := by omega
      have q1 : (i : Int) < (n : Int) := by omega
      obtain ⟨ad, ea, hd, hx0, hx1, hx2, hx3⟩ := el38 (Kd.C_below HC.out HB.out) HN.out i hin
      cases ea
      have HD := Aside0.mk hd
      replace p1 := eq_true p1
      replace q1 := eq_true q1
      generalize C.getD i z38 = y at *
      clear hd
      obtain ⟨y0, y1, y2, y3⟩ := y
      by_cases hk : (y3 && (y0.toList == nm.toList)) = true
      · have HK := Aside0.mk hk
        clear hk
        go_wp2_with (go_at_call 28; refine (hits_calls gn nm y0 y1 y2 y3 _ (heap_below HB.out HNM.out)).mono ?_; rintro e w1 ⟨rfl, hb⟩; have HB2 := Aside0.mk (below_step HB.out hb); rw [HK.out]; clear hb)
        go_ret
        exact ⟨by rw [HF.out, HD.out, firstI, if_pos HK.out]; rfl, HB2.out⟩
      · have hk := Bool.eq_false_iff.mpr hk
        have HK := Aside0.mk hk
        clear hk
        go_wp2_with (go_at_call 28; refine (hits_calls gn nm y0 y1 y2 y3 _ (heap_below HB.out HNM.out)).mono ?_; rintro e w1 ⟨rfl, hb⟩; have HB2 := Aside0.mk (below_step HB.out hb); rw [HK.out]; clear hb)
        go_roundw
        case rel => exact ⟨i + 1, by omega, by go_num, by rw [HF.out, HD.out, firstI, if_neg (by rw [HK.out]; decide)], HB2.out⟩
        case measure => simp [intOf]; omega
    · have hie : i = n := by omega
      subst hie
      have e1 : decide ((i : Int) < (i : Int)) = false := decide_eq_false (by omega)
      go_wp2
      go_ret
      exact ⟨by rw [HF.out, List.drop_of_length_le (by rw [HN.out]; exact Nat.le_refl _)]; rfl, HB.out⟩
theorem firstI_rg {α : Type} (p : α → Bool) : ∀ (l : List α) (i : Nat), firstI p l i = -1 ∧ (∀ x ∈ l, p x = false) ∨ ∃ j : Nat, firstI p l i = ((i + j : Nat) : Int) ∧ j < l.length ∧ (∀ y, l[j]? = some y → p y = true) ∧ ∀ k y, k < j → l[k]? = some y → p y = false
  | [], i => .inl ⟨rfl, fun x hx => by simp at hx⟩
  | x :: r, i => by
    unfold firstI
    by_cases h : p x = true
    · rw [if_pos h]
      exact .inr ⟨0, rfl, by simp, fun y hy => by simp at hy; rw [← hy]; exact h, fun k y hk => absurd hk (by omega)⟩
    · rw [if_neg h]
      rcases firstI_rg p r (i + 1) with ⟨h1, h2⟩ | ⟨j, h1, h2, h3, h4⟩
      · refine .inl ⟨h1, fun y hy => ?_⟩
        rcases List.mem_cons.1 hy with rfl | hy
        · exact Bool.eq_false_iff.mpr h
        · exact h2 y hy
      · refine .inr ⟨j + 1, by rw [h1]; congr 1; omega, by simp; omega, fun y hy => h3 y (by simpa using hy), fun k y hk hy => ?_⟩
        cases k with
        | zero =>
          simp at hy
          rw [← hy]
          exact Bool.eq_false_iff.mpr h
        | succ k => exact h4 k y (by omega) (by simpa using hy)
def findP (C : List S38) (nm : ByteArray) : S38 × Int :=
  match C.find? (fun s => s.f3 && (s.f0.toList == nm.toList)) with
  | some s => (s, 0)
  | none => (z38, 40)
theorem findP_no {C : List S38} {nm : ByteArray} (h : ∀ x ∈ C, (x.f3 && (x.f0.toList == nm.toList)) = false) : findP C nm = (z38, 40) := by
  unfold findP
  rw [List.find?_eq_none.2 (fun x hx => by rw [h x hx]; decide)]
theorem findP_at {C : List S38} {nm : ByteArray} {j : Nat} (hj : j < C.length) (h1 : ∀ y, C[j]? = some y → (y.f3 && (y.f0.toList == nm.toList)) = true) (h2 : ∀ k y, k < j → C[k]? = some y → (y.f3 && (y.f0.toList == nm.toList)) = false) : findP C nm = (C.getD j z38, 0) := by
  unfold findP
  have e : C.find? (fun s => s.f3 && (s.f0.toList == nm.toList)) = some (C.getD j z38) := by
    rw [List.find?_eq_some_iff_append]
    refine ⟨h1 _ (by rw [List.getD_eq_getElem?_getD, List.getElem?_eq_getElem hj]; rfl), C.take j, C.drop (j + 1), ?_, fun x hx => ?_⟩
    · rw [List.getD_eq_getElem?_getD, List.getElem?_eq_getElem hj]
      show C = C.take j ++ C[j] :: C.drop (j + 1)
      rw [← List.drop_eq_getElem_cons hj, List.take_append_drop]
    · obtain ⟨k, hk, rfl⟩ := List.mem_iff_getElem.1 hx
      rw [List.length_take] at hk
      have := h2 k _ (by omega) (List.getElem?_eq_getElem (by omega))
      rw [List.getElem_take, this]
      rfl
  rw [e]
set_option maxHeartbeats 8000000 in
set_option maxRecDepth 100000 in
theorem find_calls (A : Option Addr) (c n : Nat) (nm : ByteArray) (C : List S38) (w : World) (hC : Kd.C k38 w A C.length C) (hn : C.length = n) (hm : n ≤ 1000000) :
    Calls Try.prog 14 #[.slice A n c, .string nm] w fun e w' => e = .returned (.tuple #[.agg #[.string (findP C nm).1.f0, .int .u64 (findP C nm).1.f1, .int .u64 (findP C nm).1.f2, .bool (findP C nm).1.f3], .int .i64 (findP C nm).2]) ∧ Below w.heap.size w w' := by
  have hu38 := Try.underlying38
  have HC := Aside0.mk hC
  have HN := Aside0.mk hn
  clear hC hn
  go_enter Try.func14, Try.ntmps14
  go_upto_region 2 with (first | ((with_reducible refine gate_dst (N := 3) rfl ?_); refine box_event ?hg (N := 3) ?hd (cs := #[.string nm]) (t := 9) ?hr ?_; (case hd => rfl); (case hg => rfl); (case hr => first | (go_simp; done) | (go_simp; rfl)); intro g3 hg w1 hbox hb; have HB := Aside0.mk hb; have BK3 := Aside0.mk hbox; clear hg hbox hb) | ((with_reducible refine gate_dst (N := 4) rfl ?_); refine box_event ?hg (N := 4) ?hd (cs := #[.string ⟨#[]⟩, .int .u64 0, .int .u64 0, .bool false]) (t := 38) ?hr ?_; (case hd => rfl); (case hg => rfl); (case hr => first | (go_simp; done) | (go_simp; rfl)); intro g4 hg w2 hbox hb; have HB2 := Aside0.mk (below_step HB.out hb); have HNM := Aside0.mk (heap_below hb BK3.out); have BK4 := Aside0.mk hbox; have HG4 := Aside0.mk hg; clear hg hbox hb) | (go_at_call 27; refine (index_sym A c n g3 nm C _ (Kd.C_below HC.out HB2.out) HN.out hm HNM.out).mono ?_; rintro e w3 ⟨rfl, hb⟩; have HB3 := Aside0.mk (below_step HB2.out hb); have BK := Aside0.mk (heap_below hb BK4.out); clear hb))
  clear BK4
  rcases firstI_rg (fun s : S38 => s.f3 && (s.f0.toList == nm.toList)) C 0 with ⟨h1, h2⟩ | ⟨j, h1, h2, h3, h4⟩
  · have HF := Aside0.mk (findP_no h2)
    rw [h1]
    clear h1 h2
    go_wp2_with (with_reducible refine wpList_store_row rfl 38 (.tmp 4) (.tmp 12) rfl g4 #[.string ⟨#[]⟩, .int .u64 0, .int .u64 0, .bool false] rfl rfl 38 #[.string ⟨#[]⟩, .int .u64 0, .int .u64 0, .bool false] BK.out (by kernel_rfl) rfl (by simp [Value.oneCell']) ?_)
    have hs := setRow_heap w3 g4 _ #[.string ⟨#[]⟩, .int .u64 0, .int .u64 0, .bool false] 38 (0, 0) BK.out
    exact bodyPost_ret (results_ct rfl _ _ g4 38 #[.string ⟨#[]⟩, .int .u64 0, .int .u64 0, .bool false] (0, 0) _ rfl hs hu38 rfl (by kernel_rfl)) rfl ⟨by rw [HF.out]; rfl, below_setRow HB3.out (by rw [HG4.out]; exact HB.out.size) _⟩
  · have HF := Aside0.mk (findP_at h2 h3 h4)
    rw [h1]
    rw [show 0 + j = j by omega]
    have hj : j < n := by rw [← HN.out]; exact h2
    have HJ := Aside0.mk hj
    clear h1 h2 h3 h4
    have e1 : decide ((j : Int) < 0) = false := decide_eq_false (by omega)
    have p1 : 0 ≤ (j : Int) := by omega
    have q1 : (j : Int) < (n : Int) := by omega
    obtain ⟨ad, ea, -, hx0, hx1, hx2, hx3⟩ := el38 (Kd.C_below HC.out HB3.out) HN.out j hj
    cases ea
    replace p1 := eq_true p1
    replace q1 := eq_true q1
    clear hj
    generalize C.getD j z38 = y at *
    obtain ⟨y0, y1, y2, y3⟩ := y
    go_wp2_with (with_reducible refine wpList_store_row rfl 38 (.tmp 4) (.tmp 16) rfl g4 #[.string y0, .int .u64 y1, .int .u64 y2, .bool y3] rfl rfl 38 #[.string ⟨#[]⟩, .int .u64 0, .int .u64 0, .bool false] BK.out (by kernel_rfl) rfl (by simp [Value.oneCell']) ?_)
    have hs := setRow_heap w3 g4 _ #[.string y0, .int .u64 y1, .int .u64 y2, .bool y3] 38 (0, 0) BK.out
    exact bodyPost_ret (results_ct rfl _ _ g4 38 #[.string y0, .int .u64 y1, .int .u64 y2, .bool y3] (0, 0) _ rfl hs hu38 rfl (by kernel_rfl)) rfl ⟨by rw [HF.out]; rfl, below_setRow HB3.out (by rw [HG4.out]; exact HB.out.size) _⟩
end Go.Proofs.Ytgdhciilobnelaa.B
