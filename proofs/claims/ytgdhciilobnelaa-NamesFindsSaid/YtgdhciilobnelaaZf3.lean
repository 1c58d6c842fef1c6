/- A range over a function whose iterator may write its own boxes: what an iterator promises ('Iter'), and the statement's law ('wp_range'), at the fence that lets everything in. The parts of an address, one by one. -/
import Derived.RangeFuncNested
import Derived.RangeFuncLeaves
import Derived.WalkKit
import Derived.OwnWalkIn
import Derived.TacticsInMore
import Derived.LoopNIn
import Derived.LoopIn
import Derived.Deep.Draws
import Derived.Stop.RegionWithIn
namespace Go.RF
open Go.RowKit
structure Keeps (S : Nat → Prop) (W W' : World) : Prop where
  os : W'.os = W.os
  tape : W'.tape = W.tape
  output : W'.output = W.output
  size : W.heap.size ≤ W'.heap.size
  block : ∀ k, k < W.heap.size → ¬ S k → W'.heap[k]? = W.heap[k]?
section
variable {S T : Nat → Prop} {W W1 W2 : World}
theorem Keeps.refl (S : Nat → Prop) (W : World) : Keeps S W W := ⟨rfl, rfl, rfl, Nat.le_refl _, fun _ _ _ => rfl⟩
theorem Keeps.trans (h : Keeps S W W1) (k : Keeps S W1 W2) : Keeps S W W2 :=
  ⟨k.os.trans h.os, k.tape.trans h.tape, k.output.trans h.output, Nat.le_trans h.size k.size, fun i hi hn => (k.block i (Nat.lt_of_lt_of_le hi h.size) hn).trans (h.block i hi hn)⟩
theorem Keeps.mono (h : Keeps S W W1) (hs : ∀ k, k < W.heap.size → S k → T k) : Keeps T W W1 :=
  ⟨h.os, h.tape, h.output, h.size, fun i hi hn => h.block i hi (fun k => hn (hs i hi k))⟩
theorem Keeps.of_below {B : Nat} (h : Below B W W1) (hS : ∀ k, k < W.heap.size → ¬ S k → k < B) : Keeps S W W1 := ⟨h.os, h.tape, h.output, h.size, fun i hi hn => h.block i (hS i hi hn)⟩
theorem Keeps.of_grown {row : Option Nat} (h : W.grownBy W1 row) (hS : ∀ k, row = some k → S k) : Keeps S W W1 :=
  ⟨h.os, h.tape, h.output, h.size, fun i hi hn => h.block i hi (fun e => hn (hS i e.symm))⟩
theorem Keeps.below {B : Nat} (h : Keeps S W W1) (hB : B ≤ W.heap.size) (hS : ∀ k, k < B → ¬ S k) : Below B W W1 := ⟨h.os, h.tape, h.output, h.size, fun i hi => h.block i (by omega) (hS i hi)⟩
theorem Keeps.alloc (h : Keeps S W W1) (o : Obj) : Keeps S W (W1.alloc o) :=
  h.trans (.of_grown (World.grownBy_alloc W1 o none) (fun _ e => by cases e))
theorem Keeps.setCell (h : Keeps S W W1) (a : Addr) (v : Value) (hS : S a.block) : Keeps S W (W1.setCell a v) :=
  h.trans (.of_grown (row := some a.block) ⟨rfl, rfl, rfl, by show W1.heap.size ≤ (W1.heap.modify _ _).size; simp, fun i hi hn => Below.heap_setCell W1 a v i (fun e => hn (by rw [e]))⟩ (fun k e => by cases e; exact hS))
theorem Keeps.drew (h : Keeps S W W1) : Keeps S W W1.drew := ⟨h.os, h.tape, h.output, h.size, h.block⟩
theorem Keeps.drewN (h : Keeps S W W1) (m : Nat) : Keeps S W (W1.drewN m) := ⟨h.os, h.tape, h.output, h.size, h.block⟩
theorem Keeps.putObj (h : Keeps S W W1) (l : Nat) (o : Obj) (hS : S l) : Keeps S W (W1.putObj l o) :=
  h.trans (.of_grown (grownBy_putObj' W1 l o) (fun k e => by cases e; exact hS))
theorem Keeps.cell (h : Keeps S W W1) {a : Addr} {v : Value} (hc : W.cell? a = some v) (hn : ¬ S a.block) : W1.cell? a = some v := by
  have hl := World.block_lt_of_cell? W a hc
  unfold World.cell? at hc ⊢
  rw [h.block _ hl hn]
  exact hc
theorem Keeps.at_ (h : Keeps S W W1) {k : Nat} {o : Obj} (hc : W.heap[k]? = some o) (hn : ¬ S k) : W1.heap[k]? = some o :=
  (h.block k (Array.getElem?_eq_some_iff.1 hc).1 hn).trans hc
end
def Stable {β : Type} (S : Nat → Prop) (J : β → World → Prop) : Prop := ∀ s W W', J s W → Keeps S W W' → J s W'
theorem Stable.mono {β : Type} {S T : Nat → Prop} {J : β → World → Prop} (h : Stable T J) (hs : ∀ k, S k → T k) : Stable S J := fun s W W' hj hk => h s W W' hj (hk.mono (fun k _ hS => hs k hS))
def Iter {α : Type} (P : Program) (g : Nat) (lb : Array Value) (encs : α → Array Value) (Q R : Nat → Prop) (L : List α) (W : World) : Prop :=
  ∀ (l : Nat) (J Jx : List α → World → Prop), Stable Q J → Stable Q Jx →
    (∀ pre x suf W1, L = pre ++ x :: suf → J pre W1 → YieldAt Fence.wide 0 P l (encs x) W1 fun e W2 =>
      (e = .returned (.bool true) ∧ J (pre ++ [x]) W2 ∧ Keeps (fun k => R k ∨ W.heap.size ≤ k) W1 W2) ∨ (e = .returned (.bool false) ∧ Jx (pre ++ [x]) W2)) →
    J [] W →
    CallsIn Fence.wide 0 P g (#[.func (.yield l) #[] #[]] ++ lb) W fun e W' => (∃ v, e = .returned v) ∧ (J L W' ∨ ∃ pre suf, L = pre ++ suf ∧ Jx pre W')
def roundEnd {α : Type} (S : Nat → Prop) (I : List α → World → Prop) (Ix : Code → List α → World → Prop) (xs : List α) (W : World) : Exit → Act → World → Prop
  | .normal, _, W' => Keeps S W W' ∧ I xs W'
  | .ret, _, W' => Keeps S W W' ∧ Ix .ret xs W'
  | .exit id, _, W' => Keeps S W W' ∧ Ix (.exit id) xs W'
  | .goto t, _, W' => Keeps S W W' ∧ Ix (.goto t) xs W'
  | .panic _, _, _ => False
  | .outgrown, _, _ => False
theorem calls_of_marks {P : Program} {f : FuncId} {fn : Func} {c : Code} {args : Array Value} {w : World} {R : Ending → World → Prop} (hf : P.funcs[f]? = some fn) (hb : fn.body = some c)
    (h : c.wp P (bodyPostM Fence.wide 0 P fn R) { tmps := args ++ Array.replicate (fn.ntmps - args.size) undef, defers := [] } w) : Calls P f args w R :=
  (callsIn_wide (n := 0)).1 (callsIn_of_wp_marks hf hb trivial (wpIn_wide.2 h))
theorem leave_mark {P : Program} {fn : Func} {a : Act} {D : Nat} {W : World} {R : Ending → World → Prop} {v : Value} (hd : a.defers = [{ target := .collected D, args := #[] }]) (hK : W.heap[D]? = some (.deferred (some [])))
    (hr : (results fn a.tmps).run P (W.putObj D (.deferred none)) = .ok v (W.putObj D (.deferred none))) (h : R (.returned v) (W.putObj D (.deferred none))) : bodyPostM Fence.wide 0 P fn R .ret a W := by
  show LeavesInM Fence.wide 0 P fn a.tmps R a.defers .returning W
  rw [hd]
  exact ⟨by simp, .inl ⟨D, _, rfl, run_takeDeferred hK, ⟨v, hr, h⟩⟩⟩
theorem leave_plain {P : Program} {fn : Func} {a : Act} {W : World} {R : Ending → World → Prop} {v : Value} (hd : a.defers = [])
    (hr : (results fn a.tmps).run P W = .ok v W) (h : R (.returned v) W) : bodyPostM Fence.wide 0 P fn R .ret a W := by
  show LeavesInM Fence.wide 0 P fn a.tmps R a.defers .returning W
  rw [hd]
  exact ⟨v, hr, h⟩
def endM (P : Program) (fn : Func) (R : Ending → World → Prop) : Exit → Act → World → Prop
  | .normal, a, w | .ret, a, w => LeavesInM Fence.wide 0 P fn a.tmps R a.defers .returning w
  | _, _, _ => False
theorem calls_of_end {P : Program} {f : FuncId} {fn : Func} {c : Code} {args : Array Value} {w : World} {R : Ending → World → Prop} (hf : P.funcs[f]? = some fn) (hb : fn.body = some c)
    (h : c.wp P (endM P fn R) { tmps := args ++ Array.replicate (fn.ntmps - args.size) undef, defers := [] } w) : Calls P f args w R :=
  calls_of_marks hf hb (wp_mono h (fun e a w hq => by cases e <;> first | exact hq | exact hq.elim))
theorem end_mark {P : Program} {fn : Func} {a : Act} {D : Nat} {W : World} {R : Ending → World → Prop} {v : Value} (hd : a.defers = [{ target := .collected D, args := #[] }]) (hK : W.heap[D]? = some (.deferred (some [])))
    (hr : (results fn a.tmps).run P (W.putObj D (.deferred none)) = .ok v (W.putObj D (.deferred none))) (h : R (.returned v) (W.putObj D (.deferred none))) : endM P fn R .ret a W := leave_mark hd hK hr h
theorem end_plain {P : Program} {fn : Func} {a : Act} {W : World} {R : Ending → World → Prop} {v : Value} (hd : a.defers = []) (hr : (results fn a.tmps).run P W = .ok v W) (h : R (.returned v) W) : endM P fn R .ret a W := leave_plain hd hr h
end Go.RF
namespace Go.RF
open Go.RowKit
end Go.RF
