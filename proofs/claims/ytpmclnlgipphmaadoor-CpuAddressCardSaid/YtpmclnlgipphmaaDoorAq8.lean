/- Which operands may be: the program's and the reference's answer, in plain words. A range over a function whose iterator may write its own boxes: what an iterator promises ('Iter'), and the statement's law ('wp_range'), at the fence that lets everything in. Small words on blocks. Flags packed and unpacked. -/
import Derived.Test.YtpmclnlgipphmaaDoorAq4
import Derived.Test.YtpmclnlgipphmaaDoorAq6
import Derived.Test.YtpmclnlgipphmaaDoorAq7
import Derived.RangeFuncNested
import Derived.RangeFuncLeaves
import Derived.WalkKit
import Derived.OwnWalkIn
import Derived.TacticsInMore
import Derived.LoopNIn
import Derived.LoopIn
import Derived.Deep.Draws
import Derived.Test.YtpmclnlgipphmaaDoorAq3
import Derived.Laws.BitsLemmas
import Derived.Shelf.Abstract
namespace Go.Proofs.YtpmclnlgipphmaaDoor.B
open Go.RowKit Go.Proofs.YtpmclnlgipphmaaDoorW.PrintWords Go.Proofs.YtpmclnlgipphmaaDoorW.PrintLast Go.Proofs.YtpmclnlgipphmaaDoorW.PrintMore
set_option linter.unusedVariables false
set_option linter.unusedSimpArgs false
def rightF (k R base idx sc dp : Int) (rip : Bool) (im : Int) : Bool := (operand_Right.f 2 k R base idx sc dp rip im).getD false
theorem right_f (k R base idx sc dp : Int) (rip : Bool) (im : Int) : operand_Right.f 2 k R base idx sc dp rip im = some (rightF k R base idx sc dp rip im) := by
  have h : ∃ b, operand_Right.f 2 k R base idx sc dp rip im = some b := by
    have j : ∀ b, ∃ c, operand_Right.j0 2 b k R base idx sc dp rip im = some c := by
      intro b
      simp only [operand_Right.j0, operand_scaled.f]
      repeat' (first | exact ⟨_, rfl⟩ | split)
    unfold operand_Right.f
    simp only [operand_Reg.f, Option.bind_some]
    repeat' (first | exact ⟨_, rfl⟩ | exact j _ | split)
  obtain ⟨b, hb⟩ := h
  unfold rightF
  rw [hb]
  rfl
theorem and_pow (n : Int) (h0 : 1 ≤ n) (h1 : n ≤ 8) (h : Go.bits .and .i64 n (wrap64 (n - 1)) = 0) : n = 1 ∨ n = 2 ∨ n = 4 ∨ n = 8 := by
  have : n = 1 ∨ n = 2 ∨ n = 3 ∨ n = 4 ∨ n = 5 ∨ n = 6 ∨ n = 7 ∨ n = 8 := by omega
  rcases this with rfl | rfl | rfl | rfl | rfl | rfl | rfl | rfl
  · omega
  · omega
  · exact absurd h (by decide +kernel)
  · omega
  · exact absurd h (by decide +kernel)
  · exact absurd h (by decide +kernel)
  · exact absurd h (by decide +kernel)
  · omega
theorem and_pow' (n : Int) (h : n = 1 ∨ n = 2 ∨ n = 4 ∨ n = 8) : Go.bits .and .i64 n (wrap64 (n - 1)) = 0 := by
  rcases h with rfl | rfl | rfl | rfl <;> decide +kernel
def RightP (k R base idx sc dp : Int) (rip : Bool) (im : Int) : Prop :=
  (k = 1 ∧ 0 ≤ R ∧ R < 16 ∧ base = -1 ∧ idx = -1 ∧ sc = 0 ∧ dp = 0 ∧ rip = false ∧ im = 0) ∨
  (k = 2 ∧ R = 0 ∧ im = 0 ∧ wrap64 (wrap32 dp) = dp ∧
    ((rip = true ∧ base = -1 ∧ idx = -1 ∧ sc = 1) ∨
     (rip = false ∧ -1 ≤ base ∧ base < 16 ∧ -1 ≤ idx ∧ idx < 16 ∧ idx ≠ 4 ∧ (idx < 0 ∧ sc = 1 ∨ 0 ≤ idx ∧ (sc = 1 ∨ sc = 2 ∨ sc = 4 ∨ sc = 8)))))
theorem rightF_iff (k R base idx sc dp : Int) (rip : Bool) (im : Int) : rightF k R base idx sc dp rip im = true ↔ RightP k R base idx sc dp rip im := by
  have e : ∀ b, rightF k R base idx sc dp rip im = b ↔ operand_Right.f 2 k R base idx sc dp rip im = some b := fun b => by rw [right_f]; simp
  rw [e]
  unfold operand_Right.f RightP
  by_cases h1 : k = 1
  · subst h1
    simp only [operand_Reg.f, Option.bind_some, if_true]
    by_cases a : 0 ≤ R
    · by_cases b : R < 16
      · rw [if_pos a, if_pos b]
        simp
        constructor
        · rintro ⟨rfl, rfl, rfl, rfl, rfl, rfl⟩; exact ⟨a, b, rfl, rfl, rfl, rfl, rfl, rfl⟩
        · rintro ⟨-, -, h⟩; exact h
      · rw [if_pos a, if_neg b]; simp; omega
    · rw [if_neg a]; simp; omega
  rw [if_neg h1]
  by_cases h2 : k = 2
  · subst h2
    have jt : operand_Right.j0 2 true 2 R base idx sc dp rip im = some false := by simp only [operand_Right.j0, if_true]
    rw [if_pos rfl, jt]
    by_cases hR : R = 0
    · rw [if_pos hR]
      by_cases hi : im = 0
      · rw [if_pos hi]
        by_cases hd : wrap64 (wrap32 dp) = dp
        · have eb : (wrap64 (wrap32 dp) != dp) = false := by simp [hd]
          rw [eb]
          simp only [operand_Right.j0, operand_scaled.f, Bool.false_eq_true, if_false]
          cases rip
          · simp only [Bool.false_eq_true, if_false]
            by_cases a1 : base ≥ -1
            · by_cases a2 : base < 16
              · by_cases a3 : idx ≥ -1
                · by_cases a4 : idx < 16
                  · by_cases a5 : idx = 4
                    · rw [if_pos a1, if_pos a2, if_pos a3, if_pos a4, if_pos a5]; simp; omega
                    · rw [if_pos a1, if_pos a2, if_pos a3, if_pos a4, if_neg a5]
                      by_cases a6 : idx < 0
                      · rw [if_pos a6]; simp; omega
                      · rw [if_neg a6]
                        by_cases a7 : sc ≥ 1
                        · by_cases a8 : sc ≤ 8
                          · rw [if_pos a7, if_pos a8]
                            simp only [Option.bind_some, Option.some.injEq, beq_iff_eq]
                            constructor
                            · intro h
                              have := and_pow sc a7 a8 h
                              refine .inr ⟨trivial, hR, hi, hd, .inr ⟨trivial, a1, a2, a3, a4, a5, .inr ⟨by omega, this⟩⟩⟩
                            · rintro (⟨h, -⟩ | ⟨-, -, -, -, (⟨h, -⟩ | ⟨-, -, -, -, -, -, h⟩)⟩)
                              · exact absurd h (by decide)
                              · exact absurd h (by decide)
                              · exact and_pow' sc (by omega)
                          · rw [if_pos a7, if_neg a8]; simp; omega
                        · rw [if_neg a7]; simp; omega
                  · rw [if_pos a1, if_pos a2, if_pos a3, if_neg a4]; simp; omega
                · rw [if_pos a1, if_pos a2, if_neg a3]; simp; omega
              · rw [if_pos a1, if_neg a2]; simp; omega
            · rw [if_neg a1]; simp; omega
          · simp only [if_true]
            by_cases a1 : base = -1
            · by_cases a2 : idx = -1
              · rw [if_pos a1, if_pos a2]; simp; omega
              · rw [if_pos a1, if_neg a2]; simp; omega
            · rw [if_neg a1]; simp; omega
        · have eb : (wrap64 (wrap32 dp) != dp) = true := by simp [hd]
          rw [eb, jt]; simp [hd]
      · rw [if_neg hi]; simp [hi]
    · rw [if_neg hR]; simp [hR]
  · rw [if_neg h2]
    have jt : operand_Right.j0 2 true k R base idx sc dp rip im = some false := by simp only [operand_Right.j0, if_true]
    rw [jt]
    simp [h1, h2]
theorem fits32 (dp : Int) : wrap64 (wrap32 dp) = dp ↔ -2147483648 ≤ dp ∧ dp < 2147483648 := by
  unfold wrap64 wrap32
  omega
theorem ref_iff (n : Nat) (k R base idx sc dp : Int) (rip : Bool) (im : Int) : ∃ b, sundialref08_Right.f (n + 2) k R base idx sc dp rip im = some b ∧ (b = true ↔ RightP k R base idx sc dp rip im) := by
  have jt : sundialref08_Right.j0 (n + 2) true k R base idx sc dp rip im = some false := by simp only [sundialref08_Right.j0, if_true]
  have jf : sundialref08_Right.j1 (n + 1) true k R base idx sc dp rip im = some false := by simp only [sundialref08_Right.j1, if_true]
  unfold sundialref08_Right.f RightP
  rw [fits32]
  by_cases h1 : k = 1
  · subst h1
    rw [if_pos rfl]
    simp only [sundialref08_Reg.f, Option.bind_some]
    split
    · rename_i hb
      simp at hb
      by_cases a : R ≥ 0
      · rw [if_pos a]
        refine ⟨_, rfl, ?_⟩
        rw [decide_eq_true_iff]
        constructor
        · intro h
          exact .inl ⟨by trivial, a, h, hb⟩
        · rintro (⟨-, -, h, -⟩ | ⟨h, -⟩)
          · exact h
          · exact absurd h (by decide)
      · rw [if_neg a]
        refine ⟨_, rfl, ?_⟩
        simp
        omega
    · rename_i hb
      simp at hb
      refine ⟨_, rfl, ?_⟩
      constructor
      · intro h; cases h
      · rintro (⟨-, -, -, e1, e2, e3, e4, e5, e6⟩ | ⟨h, -⟩)
        · exact absurd e6 (hb e1 e2 e3 e4 e5)
        · exact absurd h (by decide)
  rw [if_neg h1]
  by_cases h2 : k = 2
  · subst h2
    rw [if_pos rfl, jt]
    by_cases hR : R = 0
    · rw [if_pos hR]
      by_cases hi : im = 0
      · rw [if_pos hi]
        by_cases hd : dp < -2147483648
        · rw [if_pos hd]
          refine ⟨_, rfl, ?_⟩
          simp
          omega
        rw [if_neg hd]
        by_cases hd2 : dp ≥ 2147483648
        · rw [decide_eq_true hd2, jt]
          refine ⟨_, rfl, ?_⟩
          simp
          omega
        rw [decide_eq_false hd2]
        rw [sundialref08_Right.j0, if_neg (by decide)]
        cases rip
        · rw [if_neg (by decide)]
          rw [jf]
          by_cases a1 : base < -1
          · rw [if_pos a1]; exact ⟨_, rfl, by simp; omega⟩
          rw [if_neg a1]
          by_cases a2 : base > 15
          · rw [if_pos a2]; exact ⟨_, rfl, by simp; omega⟩
          rw [if_neg a2]
          by_cases a3 : idx < -1
          · rw [if_pos a3]; exact ⟨_, rfl, by simp; omega⟩
          rw [if_neg a3]
          by_cases a4 : idx > 15
          · rw [if_pos a4]; exact ⟨_, rfl, by simp; omega⟩
          rw [if_neg a4]
          by_cases a5 : idx = 4
          · rw [show (idx == 4) = true by simp [a5], jf]; exact ⟨_, rfl, by simp; omega⟩
          rw [show (idx == 4) = false by simp [a5], sundialref08_Right.j1, if_neg (by decide)]
          by_cases a6 : idx < 0
          · rw [if_pos a6]; exact ⟨_, rfl, by simp; omega⟩
          rw [if_neg a6]
          by_cases s1 : sc = 1
          · rw [if_pos s1]; exact ⟨_, rfl, by simp; omega⟩
          rw [if_neg s1]
          by_cases s2 : sc = 2
          · rw [if_pos s2]; exact ⟨_, rfl, by simp; omega⟩
          rw [if_neg s2]
          by_cases s4 : sc = 4
          · rw [if_pos s4]; exact ⟨_, rfl, by simp; omega⟩
          rw [if_neg s4]
          exact ⟨_, rfl, by simp; omega⟩
        · rw [if_pos rfl]
          by_cases a1 : base = -1
          · rw [if_pos a1]
            by_cases a2 : idx = -1
            · rw [if_pos a2]; exact ⟨_, rfl, by simp; omega⟩
            · rw [if_neg a2]; exact ⟨_, rfl, by simp; omega⟩
          · rw [if_neg a1]; exact ⟨_, rfl, by simp; omega⟩
      · rw [if_neg hi]; exact ⟨_, rfl, by simp [hi]⟩
    · rw [if_neg hR]; exact ⟨_, rfl, by simp [hR]⟩
  · rw [if_neg h2, jt]
    exact ⟨_, rfl, by simp [h1, h2]⟩
theorem refRight (n : Nat) (k R base idx sc dp : Int) (rip : Bool) (im : Int) : sundialref08_Right.f (n + 2) k R base idx sc dp rip im = some (rightF k R base idx sc dp rip im) := by
  obtain ⟨b, hb, h⟩ := ref_iff n k R base idx sc dp rip im
  rw [hb]
  have h2 := rightF_iff k R base idx sc dp rip im
  congr 1
  rw [Bool.eq_iff_iff, h, h2]
end Go.Proofs.YtpmclnlgipphmaaDoor.B
namespace Go.RF
open Go.RowKit
structure Keeps (S : Nat → Prop) (W W' : World) : Prop where
  os : W'.os = W.os
  tape : W'.tape = W.tape
  output : W'.output = W.output
  size : W.heap.size ≤ W'.heap.size
  block : ∀ k, k < W.heap.size → ¬ S k → W'.heap[k]? = W.heap[k]?
section
variable {S T : Nat → Prop} {W W1 W2 : World}
theorem Keeps.refl (S : Nat → Prop) (W : World) : Keeps S W W := ⟨rfl, rfl, rfl, Nat.le_refl _, fun _ _ _ => rfl⟩
theorem Keeps.trans (h : Keeps S W W1) (k : Keeps S W1 W2) : Keeps S W W2 :=
  ⟨k.os.trans h.os, k.tape.trans h.tape, k.output.trans h.output, Nat.le_trans h.size k.size, fun i hi hn => (k.block i (Nat.lt_of_lt_of_le hi h.size) hn).trans (h.block i hi hn)⟩
theorem Keeps.mono (h : Keeps S W W1) (hs : ∀ k, k < W.heap.size → S k → T k) : Keeps T W W1 :=
  ⟨h.os, h.tape, h.output, h.size, fun i hi hn => h.block i hi (fun k => hn (hs i hi k))⟩
theorem Keeps.of_below {B : Nat} (h : Below B W W1) (hS : ∀ k, k < W.heap.size → ¬ S k → k < B) : Keeps S W W1 := ⟨h.os, h.tape, h.output, h.size, fun i hi hn => h.block i (hS i hi hn)⟩
theorem Keeps.of_grown {row : Option Nat} (h : W.grownBy W1 row) (hS : ∀ k, row = some k → S k) : Keeps S W W1 :=
  ⟨h.os, h.tape, h.output, h.size, fun i hi hn => h.block i hi (fun e => hn (hS i e.symm))⟩
theorem Keeps.below {B : Nat} (h : Keeps S W W1) (hB : B ≤ W.heap.size) (hS : ∀ k, k < B → ¬ S k) : Below B W W1 := ⟨h.os, h.tape, h.output, h.size, fun i hi => h.block i (by omega) (hS i hi)⟩
theorem Keeps.alloc (h : Keeps S W W1) (o : Obj) : Keeps S W (W1.alloc o) :=
  h.trans (.of_grown (World.grownBy_alloc W1 o none) (fun _ e => by cases e))
theorem Keeps.setCell (h : Keeps S W W1) (a : Addr) (v : Value) (hS : S a.block) : Keeps S W (W1.setCell a v) :=
  h.trans (.of_grown (row := some a.block) ⟨rfl, rfl, rfl, by show W1.heap.size ≤ (W1.heap.modify _ _).size; simp, fun i hi hn => Below.heap_setCell W1 a v i (fun e => hn (by rw [e]))⟩ (fun k e => by cases e; exact hS))
theorem Keeps.drew (h : Keeps S W W1) : Keeps S W W1.drew := ⟨h.os, h.tape, h.output, h.size, h.block⟩
theorem Keeps.drewN (h : Keeps S W W1) (m : Nat) : Keeps S W (W1.drewN m) := ⟨h.os, h.tape, h.output, h.size, h.block⟩
theorem Keeps.putObj (h : Keeps S W W1) (l : Nat) (o : Obj) (hS : S l) : Keeps S W (W1.putObj l o) :=
  h.trans (.of_grown (grownBy_putObj' W1 l o) (fun k e => by cases e; exact hS))
theorem Keeps.cell (h : Keeps S W W1) {a : Addr} {v : Value} (hc : W.cell? a = some v) (hn : ¬ S a.block) : W1.cell? a = some v := by
  have hl := World.block_lt_of_cell? W a hc
  unfold World.cell? at hc ⊢
  rw [h.block _ hl hn]
  exact hc
theorem Keeps.at_ (h : Keeps S W W1) {k : Nat} {o : Obj} (hc : W.heap[k]? = some o) (hn : ¬ S k) : W1.heap[k]? = some o :=
  (h.block k (Array.getElem?_eq_some_iff.1 hc).1 hn).trans hc
end
def Stable {β : Type} (S : Nat → Prop) (J : β → World → Prop) : Prop := ∀ s W W', J s W → Keeps S W W' → J s W'
theorem Stable.mono {β : Type} {S T : Nat → Prop} {J : β → World → Prop} (h : Stable T J) (hs : ∀ k, S k → T k) : Stable S J := fun s W W' hj hk => h s W W' hj (hk.mono (fun k _ hS => hs k hS))
def Iter {α : Type} (P : Program) (g : Nat) (lb : Array Value) (encs : α → Array Value) (Q R : Nat → Prop) (L : List α) (W : World) : Prop :=
  ∀ (l : Nat) (J Jx : List α → World → Prop), Stable Q J → Stable Q Jx →
    (∀ pre x suf W1, L = pre ++ x :: suf → J pre W1 → YieldAt Fence.wide 0 P l (encs x) W1 fun e W2 =>
      (e = .returned (.bool true) ∧ J (pre ++ [x]) W2 ∧ Keeps (fun k => R k ∨ W.heap.size ≤ k) W1 W2) ∨ (e = .returned (.bool false) ∧ Jx (pre ++ [x]) W2)) →
    J [] W →
    CallsIn Fence.wide 0 P g (#[.func (.yield l) #[] #[]] ++ lb) W fun e W' => (∃ v, e = .returned v) ∧ (J L W' ∨ ∃ pre suf, L = pre ++ suf ∧ Jx pre W')
def roundEnd {α : Type} (S : Nat → Prop) (I : List α → World → Prop) (Ix : Code → List α → World → Prop) (xs : List α) (W : World) : Exit → Act → World → Prop
  | .normal, _, W' => Keeps S W W' ∧ I xs W'
  | .ret, _, W' => Keeps S W W' ∧ Ix .ret xs W'
  | .exit id, _, W' => Keeps S W W' ∧ Ix (.exit id) xs W'
  | .goto t, _, W' => Keeps S W W' ∧ Ix (.goto t) xs W'
  | .panic _, _, _ => False
  | .outgrown, _, _ => False
theorem wp_range {α : Type} {P : Program} {g : Operand} {ps : Array Tmp} {assign body : Code} {Q' : Exit → Act → World → Prop} {a : Act} {w : World}
    {gf : Nat} {lb : Array Value} (hg : a.eval g = .func (.func gf) #[] lb) (eg : ∀ args w, (callFunc gf args).run P w = .ok (.enter gf args) w)
    {encs : α → Array Value} {Q R : Nat → Prop} {L : List α} (hit : ∀ W, Keeps (fun _ => False) w W → Iter P gf lb encs Q R L W)
    (hQ : ∀ k, Q k → k < w.heap.size) (hR : ∀ k, R k → k < w.heap.size) (hps : ∀ x, (encs x).size = ps.size)
    (I : List α → World → Prop) (Ix : Code → List α → World → Prop) (hI : Stable (fun k => Q k ∨ k = w.heap.size ∨ k = w.heap.size + 1) I)
    (hIx : ∀ c, Stable (fun k => Q k ∨ k = w.heap.size ∨ k = w.heap.size + 1) (Ix c)) (h0 : I [] w) (a₁ : α → Act)
    (hassign : ∀ (l : Nat) (x : α) (W : World) (K : Act → World → Prop), K (a₁ x) W →
      assign.wpIn (Fence.wide.inRound l) 0 P (Exit.then K (fun _ _ _ => False)) { tmps := (ps.zip (encs x)).foldl (fun t (p, v) => t.setIfInBounds p v) a.tmps, defers := [] } W)
    (hbody : ∀ (l : Nat) (pre : List α) (x : α) (suf : List α) (W : World), L = pre ++ x :: suf → w.heap.size + 2 ≤ W.heap.size → I pre W →
      body.wpIn (Fence.wide.inRound l) 0 P (roundEnd (fun k => R k ∨ w.heap.size + 2 ≤ k) I Ix (pre ++ [x]) W) (a₁ x) W)
    (hdone : ∀ (W : World), I L W → W.heap[w.heap.size]? = some (.deferred (some [])) → Q' .normal { a with defers := { target := .collected w.heap.size, args := #[] } :: a.defers } W)
    (hstop : ∀ (c : Code) (pre suf : List α) (W : World), L = pre ++ suf → Ix c pre W → W.heap[w.heap.size]? = some (.deferred (some [])) →
      c.wpIn Fence.wide 0 P Q' { a with defers := { target := .collected w.heap.size, args := #[] } :: a.defers } W) :
    (Code.rangeFunc g ps assign body).wpIn Fence.wide 0 P Q' a w := by
  refine wpIn_rangeFunc ?_
  intro fn hfn
  obtain ⟨rec, hrec⟩ : ∃ rec : LoopState → Option Code → Loop, rec = fun st pe => { state := st, pending := pe, fn, tmps := a.tmps, params := ps, assign, body, defers := w.heap.size } := ⟨_, rfl⟩
  obtain ⟨W1, hW1⟩ : ∃ W1, (w.alloc (.deferred (some []))).alloc (.loop (rec .ready none)) = W1 := ⟨_, rfl⟩
  have hL1 : W1.heap[w.heap.size + 1]? = some (.loop (rec .ready none)) := by
    rw [← hW1]; have := World.alloc_heap_new (w.alloc (.deferred (some []))) (.loop (rec .ready none)); rwa [World.size_alloc] at this
  have hK1 : W1.heap[w.heap.size]? = some (.deferred (some [])) := by
    rw [← hW1]; exact (Below.heap_alloc _ _ _ (by simp)).trans (World.alloc_heap_new w _)
  have hs1 : W1.heap.size = w.heap.size + 2 := by rw [← hW1]; simp
  have hkp1 : Keeps (fun _ => False) w W1 := by rw [← hW1]; exact ((Keeps.refl _ w).alloc _).alloc _
  have hI1 : I [] W1 := hI _ _ _ h0 (hkp1.mono (fun _ _ h => h.elim))
  refine ⟨w.heap.size + 1, [{ target := .collected w.heap.size, args := #[] }], W1, { target := .fn (.func gf) lb, args := #[.func (.yield (w.heap.size + 1)) #[] #[]] }, W1, gf,
    #[.func (.yield (w.heap.size + 1)) #[] #[]] ++ lb, W1, ?_, ?_, ?_, ?_, fun h => by simp [Fence.wide] at h, ?_⟩
  · rw [← hW1, hrec]; exact run_enterLoop_outer _ _ _ _ _
  · simp only [resolve, hg]
    simp [go_sem]
  · intro f' _; trivial
  · simp [invoke, go_sem, eg]
  · have notQ : ∀ {k}, Q k → k ≠ w.heap.size ∧ k ≠ w.heap.size + 1 := fun h => by have := hQ _ h; omega
    refine (hit W1 hkp1 (w.heap.size + 1)
      (fun pre W => w.heap.size + 2 ≤ W.heap.size ∧ I pre W ∧ W.heap[w.heap.size + 1]? = some (.loop (rec .ready none)) ∧ W.heap[w.heap.size]? = some (.deferred (some [])))
      (fun pre W => ∃ c, Ix c pre W ∧ W.heap[w.heap.size + 1]? = some (.loop (rec .done (some c))) ∧ W.heap[w.heap.size]? = some (.deferred (some [])))
      (fun s A B hs hk => ⟨Nat.le_trans hs.1 hk.size, hI s A B hs.2.1 (hk.mono (fun k _ h => .inl h)), hk.at_ hs.2.2.1 (fun h => (notQ h).2 rfl), hk.at_ hs.2.2.2 (fun h => (notQ h).1 rfl)⟩)
      (fun s A B hs hk => by
        obtain ⟨c, hc, hl, hd⟩ := hs
        exact ⟨c, hIx c s A B hc (hk.mono (fun k _ h => .inl h)), hk.at_ hl (fun h => (notQ h).2 rfl), hk.at_ hd (fun h => (notQ h).1 rfl)⟩)
      ?_ ⟨by omega, hI1, hL1, hK1⟩).mono ?_
    · rintro pre x suf W hL ⟨hsz, hi, hl, hk⟩
      have hlt : w.heap.size + 1 < W.heap.size := by omega
      have hy := run_yield (P := P) (args := encs x) hl (by rw [hrec]; exact hps x)
      rw [hrec] at hy
      refine ⟨fn, _, assign, body, hy, roundIn_of_wpIn hfn (hassign _ x W _ ⟨_, run_beginRound hl (by rw [hrec]), ?_⟩)⟩
      have hl2 : (W.putObj (w.heap.size + 1) (.loop { rec .ready none with state := .busy })).heap[w.heap.size + 1]? = some (.loop { rec .ready none with state := .busy }) := World.putObj_heap_same hlt
      have hk2 : (W.putObj (w.heap.size + 1) (.loop { rec .ready none with state := .busy })).heap[w.heap.size]? = some (.deferred (some [])) := (World.putObj_heap_other (by omega)).trans hk
      have hw2 : ∀ (S : Nat → Prop), S (w.heap.size + 1) → Keeps S W (W.putObj (w.heap.size + 1) (.loop { rec .ready none with state := .busy })) := fun S hS => (Keeps.refl S W).putObj _ _ hS
      have notR : ∀ {k}, (R k ∨ w.heap.size + 2 ≤ k) → k ≠ w.heap.size ∧ k ≠ w.heap.size + 1 := fun h => by
        rcases h with h | h
        · have := hR _ h; omega
        · omega
      refine wpIn_mono (hbody _ pre x suf _ hL (by simp; omega) (hI _ _ _ hi (hw2 _ (.inr (.inr rfl))))) ?_
      have fin : ∀ (jump : Option Code) (W3 : World), Keeps (fun k => R k ∨ w.heap.size + 2 ≤ k) (W.putObj (w.heap.size + 1) (.loop { rec .ready none with state := .busy })) W3 →
          (Instr.endRound (w.heap.size + 1) jump).run P W3 = .ok (.bool jump.isNone) (W3.putObj (w.heap.size + 1) (.loop (rec (if jump.isNone then .ready else .done) jump))) ∧
          (W3.putObj (w.heap.size + 1) (.loop (rec (if jump.isNone then .ready else .done) jump))).heap[w.heap.size + 1]? = some (.loop (rec (if jump.isNone then .ready else .done) jump)) ∧
          (W3.putObj (w.heap.size + 1) (.loop (rec (if jump.isNone then .ready else .done) jump))).heap[w.heap.size]? = some (.deferred (some [])) ∧
          w.heap.size + 2 ≤ W3.heap.size := fun jump W3 hk3 => by
        have hl3 := hk3.at_ hl2 (fun h => (notR h).2 rfl)
        have hsz3 : w.heap.size + 2 ≤ W3.heap.size := by have := hk3.size; rw [World.putObj_size] at this; omega
        have := run_endRound (P := P) jump hl3
        rw [hrec] at this ⊢
        exact ⟨this, World.putObj_heap_same (by omega), (World.putObj_heap_other (by omega)).trans (hk3.at_ hk2 (fun h => (notR h).1 rfl)), hsz3⟩
      have hback : ∀ (W3 : World) (o : Obj), w.heap.size + 2 ≤ W3.heap.size → Keeps (fun k => Q k ∨ k = w.heap.size ∨ k = w.heap.size + 1) W3 (W3.putObj (w.heap.size + 1) o) := fun W3 o _ => (Keeps.refl _ W3).putObj _ _ (.inr (.inr rfl))
      rintro e a3 W3 hp
      cases e with
      | normal =>
        obtain ⟨hk3, hi3⟩ := hp
        obtain ⟨hr, hl4, hk4, hz⟩ := fin none W3 hk3
        have hc : ∀ k, R k ∨ w.heap.size + 2 ≤ k → (R k ∨ W1.heap.size ≤ k) := fun k h => by rw [hs1]; exact h
        refine ⟨_, _, hr, .inl ⟨rfl, ⟨by simp; omega, hI _ _ _ hi3 (hback _ _ hz), hl4, hk4⟩, ?_⟩⟩
        -- across the whole round the record is as it was
        refine ⟨hk3.os, hk3.tape, hk3.output, by have := hk3.size; simp at this ⊢; omega, fun k hk' hn => ?_⟩
        by_cases e : k = w.heap.size + 1
        · subst e; exact hl4.trans hl.symm
        · rw [World.putObj_heap_other e, hk3.block k (by simp; omega) (fun h => hn (hc k h)), World.putObj_heap_other e]
      | ret =>
        obtain ⟨hk3, hi3⟩ := hp
        obtain ⟨hr, hl4, hk4, hz⟩ := fin (some .ret) W3 hk3
        exact ⟨_, _, hr, .inr ⟨rfl, .ret, hIx _ _ _ _ hi3 (hback _ _ hz), hl4, hk4⟩⟩
      | exit id =>
        obtain ⟨hk3, hi3⟩ := hp
        obtain ⟨hr, hl4, hk4, hz⟩ := fin (some (.exit id)) W3 hk3
        exact ⟨_, _, hr, .inr ⟨rfl, .exit id, hIx _ _ _ _ hi3 (hback _ _ hz), hl4, hk4⟩⟩
      | goto t =>
        obtain ⟨hk3, hi3⟩ := hp
        obtain ⟨hr, hl4, hk4, hz⟩ := fin (some (.goto t)) W3 hk3
        exact ⟨_, _, hr, .inr ⟨rfl, .goto t, hIx _ _ _ _ hi3 (hback _ _ hz), hl4, hk4⟩⟩
      | panic ch => exact hp.elim
      | outgrown => exact hp.elim
    · have hback : ∀ (W3 : World) (o : Obj), Keeps (fun k => Q k ∨ k = w.heap.size ∨ k = w.heap.size + 1) W3 (W3.putObj (w.heap.size + 1) o) := fun W3 o => (Keeps.refl _ W3).putObj _ _ (.inr (.inr rfl))
      rintro e W2 ⟨⟨v, rfl⟩, (⟨_, hi, hl, hk⟩ | ⟨pre, suf, hL, c, hi, hl, hk⟩)⟩
      · exact ⟨none, _, by have := run_endLoop (P := P) hl (by rw [hrec]; simp); rw [hrec] at this; exact this, hdone _ (hI _ _ _ hi (hback _ _)) ((World.putObj_heap_other (by omega)).trans hk)⟩
      · exact ⟨some c, _, by have := run_endLoop (P := P) hl (by rw [hrec]; simp); rw [hrec] at this; exact this, hstop c pre suf _ hL (hIx c _ _ _ hi (hback _ _)) ((World.putObj_heap_other (by omega)).trans hk)⟩
theorem calls_of_marks {P : Program} {f : FuncId} {fn : Func} {c : Code} {args : Array Value} {w : World} {R : Ending → World → Prop} (hf : P.funcs[f]? = some fn) (hb : fn.body = some c)
    (h : c.wp P (bodyPostM Fence.wide 0 P fn R) { tmps := args ++ Array.replicate (fn.ntmps - args.size) undef, defers := [] } w) : Calls P f args w R :=
  (callsIn_wide (n := 0)).1 (callsIn_of_wp_marks hf hb trivial (wpIn_wide.2 h))
theorem leave_mark {P : Program} {fn : Func} {a : Act} {D : Nat} {W : World} {R : Ending → World → Prop} {v : Value} (hd : a.defers = [{ target := .collected D, args := #[] }]) (hK : W.heap[D]? = some (.deferred (some [])))
    (hr : (results fn a.tmps).run P (W.putObj D (.deferred none)) = .ok v (W.putObj D (.deferred none))) (h : R (.returned v) (W.putObj D (.deferred none))) : bodyPostM Fence.wide 0 P fn R .ret a W := by
  show LeavesInM Fence.wide 0 P fn a.tmps R a.defers .returning W
  rw [hd]
  exact ⟨by simp, .inl ⟨D, _, rfl, run_takeDeferred hK, ⟨v, hr, h⟩⟩⟩
theorem leave_plain {P : Program} {fn : Func} {a : Act} {W : World} {R : Ending → World → Prop} {v : Value} (hd : a.defers = [])
    (hr : (results fn a.tmps).run P W = .ok v W) (h : R (.returned v) W) : bodyPostM Fence.wide 0 P fn R .ret a W := by
  show LeavesInM Fence.wide 0 P fn a.tmps R a.defers .returning W
  rw [hd]
  exact ⟨v, hr, h⟩
theorem wp_range_plain {α : Type} {P : Program} {g : Operand} {ps : Array Tmp} {assign body : Code} {Q' : Exit → Act → World → Prop} {a : Act} {w : World}
    {gf : Nat} {lb : Array Value} (hg : a.eval g = .func (.func gf) #[] lb) (eg : ∀ args w, (callFunc gf args).run P w = .ok (.enter gf args) w)
    {encs : α → Array Value} {Q R : Nat → Prop} {L : List α} (hit : ∀ W, Keeps (fun _ => False) w W → Iter P gf lb encs Q R L W)
    (hQ : ∀ k, Q k → k < w.heap.size) (hR : ∀ k, R k → k < w.heap.size) (hps : ∀ x, (encs x).size = ps.size)
    (I : List α → World → Prop) (Ix : Code → List α → World → Prop) (hI : Stable (fun k => Q k ∨ k = w.heap.size ∨ k = w.heap.size + 1) I)
    (hIx : ∀ c, Stable (fun k => Q k ∨ k = w.heap.size ∨ k = w.heap.size + 1) (Ix c)) (h0 : I [] w) (a₁ : α → Act)
    (hassign : ∀ (l : Nat) (x : α) (W : World) (K : Act → World → Prop), K (a₁ x) W →
      assign.wpIn (Fence.wide.inRound l) 0 P (Exit.then K (fun _ _ _ => False)) { tmps := (ps.zip (encs x)).foldl (fun t (p, v) => t.setIfInBounds p v) a.tmps, defers := [] } W)
    (hbody : ∀ (l : Nat) (pre : List α) (x : α) (suf : List α) (W : World), L = pre ++ x :: suf → w.heap.size + 2 ≤ W.heap.size → I pre W →
      body.wpIn (Fence.wide.inRound l) 0 P (roundEnd (fun k => R k ∨ w.heap.size + 2 ≤ k) I Ix (pre ++ [x]) W) (a₁ x) W)
    (hdone : ∀ (W : World), I L W → W.heap[w.heap.size]? = some (.deferred (some [])) → Q' .normal { a with defers := { target := .collected w.heap.size, args := #[] } :: a.defers } W)
    (hstop : ∀ (c : Code) (pre suf : List α) (W : World), L = pre ++ suf → Ix c pre W → W.heap[w.heap.size]? = some (.deferred (some [])) →
      c.wp P Q' { a with defers := { target := .collected w.heap.size, args := #[] } :: a.defers } W) :
    (Code.rangeFunc g ps assign body).wp P Q' a w :=
  (wpIn_wide (n := 0)).1 (wp_range hg eg hit hQ hR hps I Ix hI hIx h0 a₁ hassign hbody hdone (fun c pre suf W hl hi hd => wpIn_wide.2 (hstop c pre suf W hl hi hd)))
def endM (P : Program) (fn : Func) (R : Ending → World → Prop) : Exit → Act → World → Prop
  | .normal, a, w | .ret, a, w => LeavesInM Fence.wide 0 P fn a.tmps R a.defers .returning w
  | _, _, _ => False
theorem calls_of_end {P : Program} {f : FuncId} {fn : Func} {c : Code} {args : Array Value} {w : World} {R : Ending → World → Prop} (hf : P.funcs[f]? = some fn) (hb : fn.body = some c)
    (h : c.wp P (endM P fn R) { tmps := args ++ Array.replicate (fn.ntmps - args.size) undef, defers := [] } w) : Calls P f args w R :=
  calls_of_marks hf hb (wp_mono h (fun e a w hq => by cases e <;> first | exact hq | exact hq.elim))
theorem end_mark {P : Program} {fn : Func} {a : Act} {D : Nat} {W : World} {R : Ending → World → Prop} {v : Value} (hd : a.defers = [{ target := .collected D, args := #[] }]) (hK : W.heap[D]? = some (.deferred (some [])))
    (hr : (results fn a.tmps).run P (W.putObj D (.deferred none)) = .ok v (W.putObj D (.deferred none))) (h : R (.returned v) (W.putObj D (.deferred none))) : endM P fn R .ret a W := leave_mark hd hK hr h
theorem end_plain {P : Program} {fn : Func} {a : Act} {W : World} {R : Ending → World → Prop} {v : Value} (hd : a.defers = []) (hr : (results fn a.tmps).run P W = .ok v W) (h : R (.returned v) W) : endM P fn R .ret a W := leave_plain hd hr h
end Go.RF
namespace Go.Proofs.YtpmclnlgipphmaaDoor.B
open Go.RowKit Go.Proofs.YtpmclnlgipphmaaDoorW.PrintWords Go.Proofs.YtpmclnlgipphmaaDoorW.PrintMore Go.RF
set_option linter.unusedVariables false
set_option linter.unusedSimpArgs false
attribute [local go_sem] Oper.semAt_some
theorem cell_of_block {W : World} {b : Nat} {v : Value} {t : Nat} (h : W.heap[b]? = some (.cells #[v] t (0, 0))) : W.cell? ⟨b, 0, none⟩ = some v ∧ W.frozen? ⟨b, 0, none⟩ = false := by
  unfold World.cell? World.frozen?
  simp [h]
theorem blk_store {W : World} {b : Nat} {v : Value} {t : Nat} (h : W.heap[b]? = some (.cells #[v] t (0, 0))) (u : Value) : (W.setCell ⟨b, 0, none⟩ u).heap[b]? = some (.cells #[u] t (0, 0)) := by
  obtain ⟨hb, e⟩ := Array.getElem?_eq_some_iff.1 h
  show (W.heap.modify b _)[b]? = _
  rw [Array.getElem?_modify, h]
  simp
theorem blk_set1 {W : World} {b : Nat} {cs : Array Value} {t : Nat} (h : W.heap[b]? = some (.cells cs t (0, 0))) (i : Nat) (u : Value) : (W.setCell ⟨b, i, none⟩ u).heap[b]? = some (.cells (cs.setIfInBounds i u) t (0, 0)) := by
  obtain ⟨hb, e⟩ := Array.getElem?_eq_some_iff.1 h
  show (W.heap.modify b _)[b]? = _
  rw [Array.getElem?_modify, h]
  simp
def encF (fb : Nat) (x : Nat × Int) : Array Value := #[.pointer (some ⟨fb, x.1, none⟩), .int .u8 x.2]
def bitsL : List (Nat × Int) := [(0, 1), (4, 4), (3, 8), (1, 64), (2, 128)]
set_option maxHeartbeats 8000000 in
set_option maxRecDepth 100000 in
theorem bits_iter (pb fb : Nat) (W : World) (R : Nat → Prop) (hb : W.heap[pb]? = some (.cells #[.pointer (some ⟨fb, 0, none⟩)] 58 (0, 0))) (hR : ∀ k, R k → k ≠ pb) :
    Iter Tryd.prog 24 #[.pointer (some ⟨pb, 0, none⟩)] (encF fb) (fun _ => False) R bitsL W := by
  intro lp J Jx hJ hJx hY h0
  refine callsIn_wide.2 ?_
  simp only [List.append_toArray, List.cons_append, List.nil_append]
  have hsz : pb < W.heap.size := (Array.getElem?_eq_some_iff.1 hb).1
  have HBS := Aside0.mk hb
  have HY := Aside0.mk hY
  have HRR := Aside0.mk hR
  have HJ0 := Aside0.mk h0
  have q0 := (cell_of_block hb).1
  clear hY hR hb h0
  have hpb : ¬ (R pb ∨ W.heap.size ≤ pb) := fun h => by
    rcases h with h | h
    · exact (HRR.out _ h) rfl
    · omega
  obtain ⟨yf1, yt1, ya1, yb1, hy1, hr1⟩ := HY.out [] (0, 1) [(4, 4), (3, 8), (1, 64), (2, 128)] W rfl HJ0.out
  simp only [encF] at hy1
  go_enter Tryd.func24, Tryd.ntmps24
  refine (wpIn_wide (n := 0)).1 ?_
  gi_wp2
  refine ⟨rfl, hr1.mono ?_⟩
  rintro e W1 (⟨rfl, hJ, hk⟩ | ⟨rfl, hJx'⟩)
  · have HJ1 : Aside0 (J [(0, 1)] W1) := ⟨hJ⟩
    have HK1 : Aside0 (Keeps (fun k => R k ∨ W.heap.size ≤ k) W W1) := ⟨hk⟩
    clear hJ hk hr1 hy1
    have q1 := (cell_of_block (HK1.out.at_ HBS.out hpb)).1
    obtain ⟨yf2, yt2, ya2, yb2, hy2, hr2⟩ := HY.out [(0, 1)] (4, 4) [(3, 8), (1, 64), (2, 128)] W1 rfl HJ1.out
    simp only [encF] at hy2
    gi_wp2
    refine ⟨rfl, hr2.mono ?_⟩
    rintro e W2 (⟨rfl, hJ, hk⟩ | ⟨rfl, hJx'⟩)
    · have HJ2 : Aside0 (J [(0, 1), (4, 4)] W2) := ⟨hJ⟩
      have HK2 : Aside0 (Keeps (fun k => R k ∨ W.heap.size ≤ k) W W2) := ⟨(HK1.out.trans hk)⟩
      clear hJ hk hr2 hy2
      have q2 := (cell_of_block (HK2.out.at_ HBS.out hpb)).1
      obtain ⟨yf3, yt3, ya3, yb3, hy3, hr3⟩ := HY.out [(0, 1), (4, 4)] (3, 8) [(1, 64), (2, 128)] W2 rfl HJ2.out
      simp only [encF] at hy3
      gi_wp2
      refine ⟨rfl, hr3.mono ?_⟩
      rintro e W3 (⟨rfl, hJ, hk⟩ | ⟨rfl, hJx'⟩)
      · have HJ3 : Aside0 (J [(0, 1), (4, 4), (3, 8)] W3) := ⟨hJ⟩
        have HK3 : Aside0 (Keeps (fun k => R k ∨ W.heap.size ≤ k) W W3) := ⟨(HK2.out.trans hk)⟩
        clear hJ hk hr3 hy3
        have q3 := (cell_of_block (HK3.out.at_ HBS.out hpb)).1
        obtain ⟨yf4, yt4, ya4, yb4, hy4, hr4⟩ := HY.out [(0, 1), (4, 4), (3, 8)] (1, 64) [(2, 128)] W3 rfl HJ3.out
        simp only [encF] at hy4
        gi_wp2
        refine ⟨rfl, hr4.mono ?_⟩
        rintro e W4 (⟨rfl, hJ, hk⟩ | ⟨rfl, hJx'⟩)
        · have HJ4 : Aside0 (J [(0, 1), (4, 4), (3, 8), (1, 64)] W4) := ⟨hJ⟩
          have HK4 : Aside0 (Keeps (fun k => R k ∨ W.heap.size ≤ k) W W4) := ⟨(HK3.out.trans hk)⟩
          clear hJ hk hr4 hy4
          have q4 := (cell_of_block (HK4.out.at_ HBS.out hpb)).1
          obtain ⟨yf5, yt5, ya5, yb5, hy5, hr5⟩ := HY.out [(0, 1), (4, 4), (3, 8), (1, 64)] (2, 128) [] W4 rfl HJ4.out
          simp only [encF] at hy5
          gi_wp2
          refine ⟨rfl, hr5.mono ?_⟩
          rintro e W5 (⟨rfl, hJ, hk⟩ | ⟨rfl, hJx'⟩)
          · have HJ5 : Aside0 (J [(0, 1), (4, 4), (3, 8), (1, 64), (2, 128)] W5) := ⟨hJ⟩
            have HK5 : Aside0 (Keeps (fun k => R k ∨ W.heap.size ≤ k) W W5) := ⟨(HK4.out.trans hk)⟩
            clear hJ hk hr5 hy5
            gi_wp2
            go_wp2
            refine bodyPost_end (results_none rfl _ _ _) rfl ⟨⟨_, rfl⟩, .inl HJ5.out⟩
          · have HX : Aside0 (Jx [(0, 1), (4, 4), (3, 8), (1, 64), (2, 128)] W5) := ⟨hJx'⟩
            clear hJx' hr5 hy5
            gi_wp2
            go_wp2
            refine bodyPost_end (results_none rfl _ _ _) rfl ⟨⟨_, rfl⟩, .inr ⟨[(0, 1), (4, 4), (3, 8), (1, 64), (2, 128)], [], rfl, HX.out⟩⟩
        · have HX : Aside0 (Jx [(0, 1), (4, 4), (3, 8), (1, 64)] W4) := ⟨hJx'⟩
          clear hJx' hr4 hy4
          gi_wp2
          refine ⟨fun f h => (by cases h), ?_⟩
          gi_wp2
          go_wp2
          refine bodyPost_end (results_none rfl _ _ _) rfl ⟨⟨_, rfl⟩, .inr ⟨[(0, 1), (4, 4), (3, 8), (1, 64)], [(2, 128)], rfl, HX.out⟩⟩
      · have HX : Aside0 (Jx [(0, 1), (4, 4), (3, 8)] W3) := ⟨hJx'⟩
        clear hJx' hr3 hy3
        gi_wp2
        refine ⟨fun f h => (by cases h), ?_⟩
        gi_wp2
        refine ⟨fun f h => (by cases h), ?_⟩
        gi_wp2
        go_wp2
        refine bodyPost_end (results_none rfl _ _ _) rfl ⟨⟨_, rfl⟩, .inr ⟨[(0, 1), (4, 4), (3, 8)], [(1, 64), (2, 128)], rfl, HX.out⟩⟩
    · have HX : Aside0 (Jx [(0, 1), (4, 4)] W2) := ⟨hJx'⟩
      clear hJx' hr2 hy2
      gi_wp2
      refine ⟨fun f h => (by cases h), ?_⟩
      gi_wp2
      refine ⟨fun f h => (by cases h), ?_⟩
      gi_wp2
      refine ⟨fun f h => (by cases h), ?_⟩
      gi_wp2
      go_wp2
      refine bodyPost_end (results_none rfl _ _ _) rfl ⟨⟨_, rfl⟩, .inr ⟨[(0, 1), (4, 4)], [(3, 8), (1, 64), (2, 128)], rfl, HX.out⟩⟩
  · have HX : Aside0 (Jx [(0, 1)] W1) := ⟨hJx'⟩
    clear hJx' hr1 hy1
    gi_wp2
    refine ⟨fun f h => (by cases h), ?_⟩
    gi_wp2
    refine ⟨fun f h => (by cases h), ?_⟩
    gi_wp2
    refine ⟨fun f h => (by cases h), ?_⟩
    gi_wp2
    refine ⟨fun f h => (by cases h), ?_⟩
    gi_wp2
    go_wp2
    refine bodyPost_end (results_none rfl _ _ _) rfl ⟨⟨_, rfl⟩, .inr ⟨[(0, 1)], [(4, 4), (3, 8), (1, 64), (2, 128)], rfl, HX.out⟩⟩
end Go.Proofs.YtpmclnlgipphmaaDoor.B
namespace Go.Proofs.YtpmclnlgipphmaaDoor.B
open Go.RowKit Go.Proofs.YtpmclnlgipphmaaDoorW.PrintWords Go.Proofs.YtpmclnlgipphmaaDoorW.PrintMore Go.RF
set_option linter.unusedVariables false
set_option linter.unusedSimpArgs false
attribute [local go_sem] Oper.semAt_some
set_option maxRecDepth 100000 in
theorem bits_calls (fb : Nat) (w : World) :
    Calls Tryd.prog 20 #[.pointer (some ⟨fb, 0, none⟩)] w fun e w' =>
      e = .returned (.func (.func 24) #[] #[.pointer (some ⟨w.heap.size, 0, none⟩)]) ∧ w'.heap[w.heap.size]? = some (.cells #[.pointer (some ⟨fb, 0, none⟩)] 58 (0, 0)) ∧ Below w.heap.size w w' := by
  go_enter Tryd.func20, Tryd.ntmps20
  go_wp2_with fail
  go_ret
  exact ⟨rfl, World.alloc_heap_new w _, bX_ (Below.refl _ _) _⟩
def flagAt (C Z S O P : Bool) (i : Nat) : Bool := if i = 0 then C else if i = 1 then Z else if i = 2 then S else if i = 3 then O else P
def packL (C Z S O P : Bool) (l : List (Nat × Int)) : Int := l.foldl (fun b x => if flagAt C Z S O P x.1 = true then Go.bits .or .u8 b x.2 else b) 0
theorem packL_snoc (C Z S O P : Bool) (l : List (Nat × Int)) (x : Nat × Int) : packL C Z S O P (l ++ [x]) = if flagAt C Z S O P x.1 = true then Go.bits .or .u8 (packL C Z S O P l) x.2 else packL C Z S O P l := by
  unfold packL
  rw [List.foldl_append]
  rfl
theorem results_b {T : Array Value} {W : World} {b : Nat} {v : Value} (h : W.heap[b]? = some (.cells #[v] 5 (0, 0))) (ht : T.getD 2 undef = .pointer (some ⟨b, 0, none⟩)) :
    (results Tryd.f14 T).run Tryd.prog W = .ok v W := by
  have q := (cell_of_block h).1
  have hu := Tryd.underlying5
  have ht1 : T[2]?.getD undef = .pointer (some ⟨b, 0, none⟩) := by rw [← ht]; simp
  simp only [results, show Tryd.f14.results = #[.cell 2 5] from rfl]
  simp [go_sem, ht1, q]
set_option maxHeartbeats 8000000 in
set_option maxRecDepth 100000 in
theorem packed_calls (C Z S O P : Bool) (w : World) :
    Calls Tryd.prog 14 #[.agg #[.bool C, .bool Z, .bool S, .bool O, .bool P]] w fun e w' => e = .returned (.int .u8 (packL C Z S O P bitsL)) ∧ Below w.heap.size w w' := by
  refine calls_of_end Tryd.func14 rfl ?_
  simp only [Tryd.ntmps14, List.size_toArray, List.length_cons, List.length_nil, Nat.reduceAdd, Nat.reduceSub, Array.replicate_succ, Array.replicate_zero, List.push_toArray, List.append_toArray, List.nil_append, List.cons_append]
  go_wp2_with fail
  have b0 := World.alloc_heap_new w (.cells #[.bool C, .bool Z, .bool S, .bool O, .bool P] 27)
  have b1 := World.alloc_heap_new (w.alloc (.cells #[.bool C, .bool Z, .bool S, .bool O, .bool P] 27)) (.cells #[.int .u8 0] 5)
  rw [World.size_alloc] at b1
  have b0' := (Below.heap_alloc (w.alloc (.cells #[.bool C, .bool Z, .bool S, .bool O, .bool P] 27)) (.cells #[.int .u8 0] 5) _ (Array.getElem?_eq_some_iff.1 b0).1).trans b0
  have hbl : Below w.heap.size w ((w.alloc (.cells #[.bool C, .bool Z, .bool S, .bool O, .bool P] 27)).alloc (.cells #[.int .u8 0] 5)) := bX_ (bX_ (Below.refl _ _) _) _
  have B0 := Aside0.mk b0'
  have B1 := Aside0.mk b1
  have HB := Aside0.mk hbl
  clear b0 b1 b0' hbl
  generalize (w.alloc (.cells #[.bool C, .bool Z, .bool S, .bool O, .bool P] 27)).alloc (.cells #[.int .u8 0] 5) = w1 at *
  refine (bits_calls w.heap.size w1).mono ?_
  rintro e w2 ⟨rfl, hp, hb2⟩
  have hl1 : w.heap.size + 1 < w1.heap.size := blk_lt B1.out
  have B02 := Aside0.mk (blk_below B0.out hb2)
  have B12 := Aside0.mk (blk_below B1.out hb2)
  have HB2 := Aside0.mk (HB.out.trans (hb2.mono HB.out.size))
  have HP2 := Aside0.mk hp
  have hlp : w1.heap.size < w2.heap.size := blk_lt hp
  clear B0 B1 HB hb2 hp
  go_wp2_with fail
  refine wp_range_plain (α := Nat × Int) (gf := 24) rfl (enters_of Tryd.func24 (by kernel_rfl) rfl) (encs := encF w.heap.size) (Q := fun _ => False) (R := fun k => k = w.heap.size + 1) (L := bitsL)
    (fun W hk => bits_iter _ _ W _ (hk.at_ HP2.out (fun h => h)) (fun k h => by omega)) (fun k h => h.elim) (fun k h => by omega) (fun _ => rfl)
    (fun pre W => Below w.heap.size w W ∧ W.heap[w.heap.size]? = some (.cells #[.bool C, .bool Z, .bool S, .bool O, .bool P] 27 (0, 0)) ∧ W.heap[w.heap.size + 1]? = some (.cells #[.int .u8 (packL C Z S O P pre)] 5 (0, 0)))
    (fun _ _ _ => False)
    (fun s A B hs' hk => ⟨hs'.1.trans (hk.below hs'.1.size (fun k hk' h => by rcases h with h | h; exact h.elim; omega)), hk.at_ hs'.2.1 (by rintro (h | h); exact h.elim; omega), hk.at_ hs'.2.2 (by rintro (h | h); exact h.elim; omega)⟩)
    (fun _ _ _ _ h _ => h.elim) ⟨HB2.out, B02.out, B12.out⟩ ?_ ?assign ?body ?done ?stop
  case assign =>
    intro lp x W K hK
    simp only [encF]
    gi_wp2
    exact hK
  case stop =>
    intro c pre suf W _ h _
    exact h.elim
  case done =>
    rintro W ⟨hB, h0, h1⟩ hd
    obtain ⟨c1, f1⟩ := cell_of_block h1
    have HB := Aside0.mk hB
    have H1 := Aside0.mk h1
    have HDD := Aside0.mk hd
    clear hB h0 h1 hd
    go_wp2
    have hkp : Keeps (fun k => k = w2.heap.size) (W.setCell ⟨w.heap.size + 1, 0, none⟩ (.int .u8 (packL C Z S O P bitsL))) ((W.setCell ⟨w.heap.size + 1, 0, none⟩ (.int .u8 (packL C Z S O P bitsL))).putObj w2.heap.size (.deferred none)) := (Keeps.refl _ _).putObj _ _ rfl
    refine end_mark (D := w2.heap.size) rfl ((Below.heap_setCell W _ _ _ (by show w2.heap.size ≠ w.heap.size + 1; omega)).trans HDD.out) (results_b (hkp.at_ (blk_store H1.out _) (by omega)) rfl) ⟨rfl, ?_⟩
    exact (HB.out.trans ((((Keeps.refl (fun k => k = w.heap.size + 1) W).setCell ⟨w.heap.size + 1, 0, none⟩ _ rfl).below HB.out.size (fun k hk h => by omega)))).trans (hkp.below (by rw [World.size_setCell]; exact HB.out.size) (fun k hk h => by omega))
  case body =>
    rintro lp pre x suf W hLL hsz' ⟨hB, h0, h1⟩
    obtain ⟨c1, f1⟩ := cell_of_block h1
    have hx : x = (0, 1) ∨ x = (4, 4) ∨ x = (3, 8) ∨ x = (1, 64) ∨ x = (2, 128) := by
      have hm : x ∈ bitsL := by rw [hLL]; simp
      simpa [bitsL] using hm
    have cf : W.cell? ⟨w.heap.size, x.1, none⟩ = some (.bool (flagAt C Z S O P x.1)) := by
      rw [bC_ h0]
      rcases hx with rfl | rfl | rfl | rfl | rfl <;> rfl
    have hps : packL C Z S O P (pre ++ [x]) = _ := packL_snoc C Z S O P pre x
    have HPS := Aside0.mk hps
    have HB := Aside0.mk hB
    have H0 := Aside0.mk h0
    have H1 := Aside0.mk h1
    clear hps hB h0 h1 hx hLL
    obtain ⟨x1, x2⟩ := x
    simp only at cf HPS
    obtain ⟨fl, hfl⟩ : ∃ f, flagAt C Z S O P x1 = f := ⟨_, rfl⟩
    rw [hfl] at cf HPS
    clear hfl
    obtain ⟨pk, hpk⟩ : ∃ p, packL C Z S O P pre = p := ⟨_, rfl⟩
    rw [hpk] at HPS H1 c1
    clear hpk
    cases fl
    · gi_wp2
      refine ⟨Keeps.refl _ _, HB.out, H0.out, ?_⟩
      rw [HPS.out]
      exact H1.out
    · gi_wp2
      have hkp : Keeps (fun k => k = w.heap.size + 1 ∨ w2.heap.size + 2 ≤ k) W (W.setCell ⟨w.heap.size + 1, 0, none⟩ (.int .u8 (Go.bits .or .u8 pk x2))) := (Keeps.refl _ W).setCell _ _ (.inl rfl)
      refine ⟨hkp, HB.out.trans (hkp.below HB.out.size (fun k hk h => by omega)), hkp.at_ H0.out (by omega), ?_⟩
      rw [HPS.out]
      exact blk_store H1.out _
theorem rows5 {W : World} {b : Nat} {v0 v1 v2 v3 v4 : Value} {t : Nat} (h : W.heap[b]? = some (.cells #[v0, v1, v2, v3, v4] t (0, 0))) :
    (W.cell? ⟨b, 0, none⟩ = some v0 ∧ W.cell? ⟨b, 1, none⟩ = some v1 ∧ W.cell? ⟨b, 2, none⟩ = some v2 ∧ W.cell? ⟨b, 3, none⟩ = some v3 ∧ W.cell? ⟨b, 4, none⟩ = some v4)
    ∧ (W.frozen? ⟨b, 0, none⟩ = false ∧ W.frozen? ⟨b, 1, none⟩ = false ∧ W.frozen? ⟨b, 2, none⟩ = false ∧ W.frozen? ⟨b, 3, none⟩ = false ∧ W.frozen? ⟨b, 4, none⟩ = false) :=
  ⟨⟨by rw [bC_ h]; rfl, by rw [bC_ h]; rfl, by rw [bC_ h]; rfl, by rw [bC_ h]; rfl, by rw [bC_ h]; rfl⟩,
   bF_ h 0, bF_ h 1, bF_ h 2, bF_ h 3, bF_ h 4⟩
end Go.Proofs.YtpmclnlgipphmaaDoor.B
