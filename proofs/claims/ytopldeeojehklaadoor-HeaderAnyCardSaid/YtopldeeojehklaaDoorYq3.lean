/- A range over a function whose iterator may write its own boxes: what an iterator promises ('Iter'), and the statement's law ('wp_range'), at the fence that lets everything in. The parts of an address, one by one. -/
import Derived.RangeFuncNested
import Derived.RangeFuncLeaves
import Derived.WalkKit
import Derived.OwnWalkIn
import Derived.TacticsInMore
import Derived.LoopNIn
import Derived.LoopIn
import Derived.Deep.Draws
import Derived.Stop.RegionWithIn
namespace Go.RF
open Go.RowKit
structure Keeps (S : Nat → Prop) (W W' : World) : Prop where
  os : W'.os = W.os
  tape : W'.tape = W.tape
  output : W'.output = W.output
  size : W.heap.size ≤ W'.heap.size
  block : ∀ k, k < W.heap.size → ¬ S k → W'.heap[k]? = W.heap[k]?
section
variable {S T : Nat → Prop} {W W1 W2 : World}
theorem Keeps.refl (S : Nat → Prop) (W : World) : Keeps S W W := ⟨rfl, rfl, rfl, Nat.le_refl _, fun _ _ _ => rfl⟩
theorem Keeps.trans (h : Keeps S W W1) (k : Keeps S W1 W2) : Keeps S W W2 :=
  ⟨k.os.trans h.os, k.tape.trans h.tape, k.output.trans h.output, Nat.le_trans h.size k.size, fun i hi hn => (k.block i (Nat.lt_of_lt_of_le hi h.size) hn).trans (h.block i hi hn)⟩
theorem Keeps.mono (h : Keeps S W W1) (hs : ∀ k, k < W.heap.size → S k → T k) : Keeps T W W1 :=
  ⟨h.os, h.tape, h.output, h.size, fun i hi hn => h.block i hi (fun k => hn (hs i hi k))⟩
theorem Keeps.of_below {B : Nat} (h : Below B W W1) (hS : ∀ k, k < W.heap.size → ¬ S k → k < B) : Keeps S W W1 := ⟨h.os, h.tape, h.output, h.size, fun i hi hn => h.block i (hS i hi hn)⟩
theorem Keeps.of_grown {row : Option Nat} (h : W.grownBy W1 row) (hS : ∀ k, row = some k → S k) : Keeps S W W1 :=
  ⟨h.os, h.tape, h.output, h.size, fun i hi hn => h.block i hi (fun e => hn (hS i e.symm))⟩
theorem Keeps.below {B : Nat} (h : Keeps S W W1) (hB : B ≤ W.heap.size) (hS : ∀ k, k < B → ¬ S k) : Below B W W1 := ⟨h.os, h.tape, h.output, h.size, fun i hi => h.block i (by omega) (hS i hi)⟩
theorem Keeps.alloc (h : Keeps S W W1) (o : Obj) : Keeps S W (W1.alloc o) :=
  h.trans (.of_grown (World.grownBy_alloc W1 o none) (fun _ e => by cases e))
theorem Keeps.setCell (h : Keeps S W W1) (a : Addr) (v : Value) (hS : S a.block) : Keeps S W (W1.setCell a v) :=
  h.trans (.of_grown (row := some a.block) ⟨rfl, rfl, rfl, by show W1.heap.size ≤ (W1.heap.modify _ _).size; simp, fun i hi hn => Below.heap_setCell W1 a v i (fun e => hn (by rw [e]))⟩ (fun k e => by cases e; exact hS))
theorem Keeps.drew (h : Keeps S W W1) : Keeps S W W1.drew := ⟨h.os, h.tape, h.output, h.size, h.block⟩
theorem Keeps.drewN (h : Keeps S W W1) (m : Nat) : Keeps S W (W1.drewN m) := ⟨h.os, h.tape, h.output, h.size, h.block⟩
theorem Keeps.putObj (h : Keeps S W W1) (l : Nat) (o : Obj) (hS : S l) : Keeps S W (W1.putObj l o) :=
  h.trans (.of_grown (grownBy_putObj' W1 l o) (fun k e => by cases e; exact hS))
theorem Keeps.cell (h : Keeps S W W1) {a : Addr} {v : Value} (hc : W.cell? a = some v) (hn : ¬ S a.block) : W1.cell? a = some v := by
  have hl := World.block_lt_of_cell? W a hc
  unfold World.cell? at hc ⊢
  rw [h.block _ hl hn]
  exact hc
theorem Keeps.at_ (h : Keeps S W W1) {k : Nat} {o : Obj} (hc : W.heap[k]? = some o) (hn : ¬ S k) : W1.heap[k]? = some o :=
  (h.block k (Array.getElem?_eq_some_iff.1 hc).1 hn).trans hc
end
def Stable {β : Type} (S : Nat → Prop) (J : β → World → Prop) : Prop := ∀ s W W', J s W → Keeps S W W' → J s W'
theorem Stable.mono {β : Type} {S T : Nat → Prop} {J : β → World → Prop} (h : Stable T J) (hs : ∀ k, S k → T k) : Stable S J := fun s W W' hj hk => h s W W' hj (hk.mono (fun k _ hS => hs k hS))
theorem calls_of_marks {P : Program} {f : FuncId} {fn : Func} {c : Code} {args : Array Value} {w : World} {R : Ending → World → Prop} (hf : P.funcs[f]? = some fn) (hb : fn.body = some c)
    (h : c.wp P (bodyPostM Fence.wide 0 P fn R) { tmps := args ++ Array.replicate (fn.ntmps - args.size) undef, defers := [] } w) : Calls P f args w R :=
  (callsIn_wide (n := 0)).1 (callsIn_of_wp_marks hf hb trivial (wpIn_wide.2 h))
theorem leave_mark {P : Program} {fn : Func} {a : Act} {D : Nat} {W : World} {R : Ending → World → Prop} {v : Value} (hd : a.defers = [{ target := .collected D, args := #[] }]) (hK : W.heap[D]? = some (.deferred (some [])))
    (hr : (results fn a.tmps).run P (W.putObj D (.deferred none)) = .ok v (W.putObj D (.deferred none))) (h : R (.returned v) (W.putObj D (.deferred none))) : bodyPostM Fence.wide 0 P fn R .ret a W := by
  show LeavesInM Fence.wide 0 P fn a.tmps R a.defers .returning W
  rw [hd]
  exact ⟨by simp, .inl ⟨D, _, rfl, run_takeDeferred hK, ⟨v, hr, h⟩⟩⟩
end Go.RF
namespace Go.RF
open Go.RowKit
def IterT {α : Type} (P : Program) (g : Nat) (lb : Array Value) (encs : α → Array Value) (Q R : Nat → Prop) (L : List α) (W : World) : Prop :=
  ∀ (l : Nat) (J : List α → World → Prop), Stable Q J →
    (∀ pre x suf W1, L = pre ++ x :: suf → J pre W1 → YieldAt Fence.wide 0 P l (encs x) W1 fun e W2 => e = .returned (.bool true) ∧ J (pre ++ [x]) W2 ∧ Keeps (fun k => R k ∨ W.heap.size ≤ k) W1 W2) →
    J [] W →
    CallsIn Fence.wide 0 P g (#[.func (.yield l) #[] #[]] ++ lb) W fun e W' => (∃ v, e = .returned v) ∧ J L W'
def roundOn {α : Type} (S : Nat → Prop) (I : List α → World → Prop) (xs : List α) (W : World) : Exit → Act → World → Prop
  | .normal, _, W' => Keeps S W W' ∧ I xs W'
  | _, _, _ => False
theorem wp_rangeT {α : Type} {P : Program} {g : Operand} {ps : Array Tmp} {assign body : Code} {Q' : Exit → Act → World → Prop} {a : Act} {w : World}
    {gf : Nat} {lb : Array Value} (hg : a.eval g = .func (.func gf) #[] lb) (eg : ∀ args w, (callFunc gf args).run P w = .ok (.enter gf args) w)
    {encs : α → Array Value} {Q R : Nat → Prop} {L : List α} (hit : ∀ W, Keeps (fun _ => False) w W → IterT P gf lb encs Q R L W)
    (hQ : ∀ k, Q k → k < w.heap.size) (hR : ∀ k, R k → k < w.heap.size) (hps : ∀ x, (encs x).size = ps.size)
    (I : List α → World → Prop) (hI : Stable (fun k => Q k ∨ k = w.heap.size ∨ k = w.heap.size + 1) I)
    (h0 : I [] w) (a₁ : α → Act)
    (hassign : ∀ (l : Nat) (x : α) (W : World) (K : Act → World → Prop), K (a₁ x) W →
      assign.wpIn (Fence.wide.inRound l) 0 P (Exit.then K (fun _ _ _ => False)) { tmps := (ps.zip (encs x)).foldl (fun t (p, v) => t.setIfInBounds p v) a.tmps, defers := [] } W)
    (hbody : ∀ (l : Nat) (pre : List α) (x : α) (suf : List α) (W : World), L = pre ++ x :: suf → w.heap.size + 2 ≤ W.heap.size → I pre W →
      body.wpIn (Fence.wide.inRound l) 0 P (roundOn (fun k => R k ∨ w.heap.size + 2 ≤ k) I (pre ++ [x]) W) (a₁ x) W)
    (hdone : ∀ (W : World), I L W → W.heap[w.heap.size]? = some (.deferred (some [])) → Q' .normal { a with defers := { target := .collected w.heap.size, args := #[] } :: a.defers } W) :
    (Code.rangeFunc g ps assign body).wp P Q' a w := by
  refine (wpIn_wide (n := 0)).1 (wpIn_rangeFunc ?_)
  intro fn hfn
  obtain ⟨rec, hrec⟩ : ∃ rec : LoopState → Option Code → Loop, rec = fun st pe => { state := st, pending := pe, fn, tmps := a.tmps, params := ps, assign, body, defers := w.heap.size } := ⟨_, rfl⟩
  obtain ⟨W1, hW1⟩ : ∃ W1, (w.alloc (.deferred (some []))).alloc (.loop (rec .ready none)) = W1 := ⟨_, rfl⟩
  have hL1 : W1.heap[w.heap.size + 1]? = some (.loop (rec .ready none)) := by
    rw [← hW1]; have := World.alloc_heap_new (w.alloc (.deferred (some []))) (.loop (rec .ready none)); rwa [World.size_alloc] at this
  have hK1 : W1.heap[w.heap.size]? = some (.deferred (some [])) := by
    rw [← hW1]; exact (Below.heap_alloc _ _ _ (by simp)).trans (World.alloc_heap_new w _)
  have hs1 : W1.heap.size = w.heap.size + 2 := by rw [← hW1]; simp
  have hkp1 : Keeps (fun _ => False) w W1 := by rw [← hW1]; exact ((Keeps.refl _ w).alloc _).alloc _
  have hI1 : I [] W1 := hI _ _ _ h0 (hkp1.mono (fun _ _ h => h.elim))
  refine ⟨w.heap.size + 1, [{ target := .collected w.heap.size, args := #[] }], W1, { target := .fn (.func gf) lb, args := #[.func (.yield (w.heap.size + 1)) #[] #[]] }, W1, gf,
    #[.func (.yield (w.heap.size + 1)) #[] #[]] ++ lb, W1, ?_, ?_, ?_, ?_, fun h => by simp [Fence.wide] at h, ?_⟩
  · rw [← hW1, hrec]; exact run_enterLoop_outer _ _ _ _ _
  · simp only [resolve, hg]
    simp [go_sem]
  · intro f' _; trivial
  · simp [invoke, go_sem, eg]
  · have notQ : ∀ {k}, Q k → k ≠ w.heap.size ∧ k ≠ w.heap.size + 1 := fun h => by have := hQ _ h; omega
    refine (hit W1 hkp1 (w.heap.size + 1)
      (fun pre W => w.heap.size + 2 ≤ W.heap.size ∧ I pre W ∧ W.heap[w.heap.size + 1]? = some (.loop (rec .ready none)) ∧ W.heap[w.heap.size]? = some (.deferred (some [])))
      (fun s A B hs hk => ⟨Nat.le_trans hs.1 hk.size, hI s A B hs.2.1 (hk.mono (fun k _ h => .inl h)), hk.at_ hs.2.2.1 (fun h => (notQ h).2 rfl), hk.at_ hs.2.2.2 (fun h => (notQ h).1 rfl)⟩)
      ?_ ⟨by omega, hI1, hL1, hK1⟩).mono ?_
    · rintro pre x suf W hL ⟨hsz, hi, hl, hk⟩
      have hlt : w.heap.size + 1 < W.heap.size := by omega
      have hy := run_yield (P := P) (args := encs x) hl (by rw [hrec]; exact hps x)
      rw [hrec] at hy
      refine ⟨fn, _, assign, body, hy, roundIn_of_wpIn hfn (hassign _ x W _ ⟨_, run_beginRound hl (by rw [hrec]), ?_⟩)⟩
      have hl2 : (W.putObj (w.heap.size + 1) (.loop { rec .ready none with state := .busy })).heap[w.heap.size + 1]? = some (.loop { rec .ready none with state := .busy }) := World.putObj_heap_same hlt
      have hk2 : (W.putObj (w.heap.size + 1) (.loop { rec .ready none with state := .busy })).heap[w.heap.size]? = some (.deferred (some [])) := (World.putObj_heap_other (by omega)).trans hk
      have hw2 : ∀ (S : Nat → Prop), S (w.heap.size + 1) → Keeps S W (W.putObj (w.heap.size + 1) (.loop { rec .ready none with state := .busy })) := fun S hS => (Keeps.refl S W).putObj _ _ hS
      have notR : ∀ {k}, (R k ∨ w.heap.size + 2 ≤ k) → k ≠ w.heap.size ∧ k ≠ w.heap.size + 1 := fun h => by
        rcases h with h | h
        · have := hR _ h; omega
        · omega
      refine wpIn_mono (hbody _ pre x suf _ hL (by simp; omega) (hI _ _ _ hi (hw2 _ (.inr (.inr rfl))))) ?_
      have hback : ∀ (W3 : World) (o : Obj), w.heap.size + 2 ≤ W3.heap.size → Keeps (fun k => Q k ∨ k = w.heap.size ∨ k = w.heap.size + 1) W3 (W3.putObj (w.heap.size + 1) o) := fun W3 o _ => (Keeps.refl _ W3).putObj _ _ (.inr (.inr rfl))
      rintro e a3 W3 hp
      cases e with
      | normal =>
        obtain ⟨hk3, hi3⟩ := hp
        have hl3 := hk3.at_ hl2 (fun h => (notR h).2 rfl)
        have hz : w.heap.size + 2 ≤ W3.heap.size := by have := hk3.size; rw [World.putObj_size] at this; omega
        have hr := run_endRound (P := P) none hl3
        rw [hrec] at hr
        have hl4 : (W3.putObj (w.heap.size + 1) (.loop (rec .ready none))).heap[w.heap.size + 1]? = some (.loop (rec .ready none)) := World.putObj_heap_same (by omega)
        have hk4 : (W3.putObj (w.heap.size + 1) (.loop (rec .ready none))).heap[w.heap.size]? = some (.deferred (some [])) := (World.putObj_heap_other (by omega)).trans (hk3.at_ hk2 (fun h => (notR h).1 rfl))
        have hc : ∀ k, R k ∨ w.heap.size + 2 ≤ k → (R k ∨ W1.heap.size ≤ k) := fun k h => by rw [hs1]; exact h
        rw [hrec] at hl4 hk4
        refine ⟨_, _, hr, rfl, ⟨by simp; omega, hI _ _ _ hi3 (hback _ _ hz), by rw [hrec]; exact hl4, hk4⟩, ?_⟩
        refine ⟨hk3.os, hk3.tape, hk3.output, by have := hk3.size; simp at this ⊢; omega, fun k hk' hn => ?_⟩
        by_cases e : k = w.heap.size + 1
        · subst e; rw [hrec] at hl; exact hl4.trans hl.symm
        · rw [World.putObj_heap_other e, hk3.block k (by simp; omega) (fun h => hn (hc k h)), World.putObj_heap_other e]
      | ret => exact hp.elim
      | exit id => exact hp.elim
      | goto t => exact hp.elim
      | panic ch => exact hp.elim
      | outgrown => exact hp.elim
    · have hback : ∀ (W3 : World) (o : Obj), Keeps (fun k => Q k ∨ k = w.heap.size ∨ k = w.heap.size + 1) W3 (W3.putObj (w.heap.size + 1) o) := fun W3 o => (Keeps.refl _ W3).putObj _ _ (.inr (.inr rfl))
      rintro e W2 ⟨⟨v, rfl⟩, _, hi, hl, hk⟩
      exact ⟨none, _, by have := run_endLoop (P := P) hl (by rw [hrec]; simp); rw [hrec] at this; exact this, hdone _ (hI _ _ _ hi (hback _ _)) ((World.putObj_heap_other (by omega)).trans hk)⟩
end Go.RF
