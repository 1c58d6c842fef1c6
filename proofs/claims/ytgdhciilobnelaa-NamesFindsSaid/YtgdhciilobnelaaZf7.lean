/- wp_range, where a round's assignment may lay blocks. A number's bytes put into a row of one's own. A string's bytes appended, with a word on where the row lies. -/
import Derived.Test.YtgdhciilobnelaaZf3
import Derived.Test.YtgdhciilobnelaaZf6
namespace Go.RF
open Go.RowKit
theorem wp_rangeA {α : Type} {P : Program} {g : Operand} {ps : Array Tmp} {assign body : Code} {Q' : Exit → Act → World → Prop} {a : Act} {w : World}
    {gf : Nat} {lb : Array Value} (hg : a.eval g = .func (.func gf) #[] lb) (eg : ∀ args w, (callFunc gf args).run P w = .ok (.enter gf args) w)
    {encs : α → Array Value} {Q R : Nat → Prop} {L : List α} (hit : ∀ W, Keeps (fun _ => False) w W → Iter P gf lb encs Q R L W)
    (hQ : ∀ k, Q k → k < w.heap.size) (hR : ∀ k, R k → k < w.heap.size) (hps : ∀ x, (encs x).size = ps.size)
    (I : List α → World → Prop) (Ix : Code → List α → World → Prop) (hI : Stable (fun k => Q k ∨ k = w.heap.size ∨ k = w.heap.size + 1) I)
    (hIx : ∀ c, Stable (fun k => Q k ∨ k = w.heap.size ∨ k = w.heap.size + 1) (Ix c)) (h0 : I [] w) (A : List α → α → Act → World → Prop) (hA : ∀ pre x a' W W', A pre x a' W → Keeps (fun k => k = w.heap.size + 1) W W' → A pre x a' W')
    (hassign : ∀ (l : Nat) (pre : List α) (x : α) (suf : List α) (W : World) (K : Act → World → Prop), L = pre ++ x :: suf → w.heap.size + 2 ≤ W.heap.size → I pre W → (∀ a' W', A pre x a' W' → Keeps (fun _ => False) W W' → K a' W') →
      assign.wpIn (Fence.wide.inRound l) 0 P (Exit.then K (fun _ _ _ => False)) { tmps := (ps.zip (encs x)).foldl (fun t (p, v) => t.setIfInBounds p v) a.tmps, defers := [] } W)
    (hbody : ∀ (l : Nat) (pre : List α) (x : α) (suf : List α) (a' : Act) (W : World), L = pre ++ x :: suf → w.heap.size + 2 ≤ W.heap.size → A pre x a' W →
      body.wpIn (Fence.wide.inRound l) 0 P (roundEnd (fun k => R k ∨ w.heap.size + 2 ≤ k) I Ix (pre ++ [x]) W) a' W)
    (hdone : ∀ (W : World), I L W → W.heap[w.heap.size]? = some (.deferred (some [])) → Q' .normal { a with defers := { target := .collected w.heap.size, args := #[] } :: a.defers } W)
    (hstop : ∀ (c : Code) (pre suf : List α) (W : World), L = pre ++ suf → Ix c pre W → W.heap[w.heap.size]? = some (.deferred (some [])) →
      c.wpIn Fence.wide 0 P Q' { a with defers := { target := .collected w.heap.size, args := #[] } :: a.defers } W) :
    (Code.rangeFunc g ps assign body).wpIn Fence.wide 0 P Q' a w := by
  refine wpIn_rangeFunc ?_
  intro fn hfn
  obtain ⟨rec, hrec⟩ : ∃ rec : LoopState → Option Code → Loop, rec = fun st pe => { state := st, pending := pe, fn, tmps := a.tmps, params := ps, assign, body, defers := w.heap.size } := ⟨_, rfl⟩
  obtain ⟨W1, hW1⟩ : ∃ W1, (w.alloc (.deferred (some []))).alloc (.loop (rec .ready none)) = W1 := ⟨_, rfl⟩
  have hL1 : W1.heap[w.heap.size + 1]? = some (.loop (rec .ready none)) := by
    rw [← hW1]; have := World.alloc_heap_new (w.alloc (.deferred (some []))) (.loop (rec .ready none)); rwa [World.size_alloc] at this
  have hK1 : W1.heap[w.heap.size]? = some (.deferred (some [])) := by
    rw [← hW1]; exact (Below.heap_alloc _ _ _ (by simp)).trans (World.alloc_heap_new w _)
  have hs1 : W1.heap.size = w.heap.size + 2 := by rw [← hW1]; simp
  have hkp1 : Keeps (fun _ => False) w W1 := by rw [← hW1]; exact ((Keeps.refl _ w).alloc _).alloc _
  have hI1 : I [] W1 := hI _ _ _ h0 (hkp1.mono (fun _ _ h => h.elim))
  refine ⟨w.heap.size + 1, [{ target := .collected w.heap.size, args := #[] }], W1, { target := .fn (.func gf) lb, args := #[.func (.yield (w.heap.size + 1)) #[] #[]] }, W1, gf,
    #[.func (.yield (w.heap.size + 1)) #[] #[]] ++ lb, W1, ?_, ?_, ?_, ?_, fun h => by simp [Fence.wide] at h, ?_⟩
  · rw [← hW1, hrec]; exact run_enterLoop_outer _ _ _ _ _
  · simp only [resolve, hg]
    simp [go_sem]
  · intro f' _; trivial
  · simp [invoke, go_sem, eg]
  · have notQ : ∀ {k}, Q k → k ≠ w.heap.size ∧ k ≠ w.heap.size + 1 := fun h => by have := hQ _ h; omega
    refine (hit W1 hkp1 (w.heap.size + 1)
      (fun pre W => w.heap.size + 2 ≤ W.heap.size ∧ I pre W ∧ W.heap[w.heap.size + 1]? = some (.loop (rec .ready none)) ∧ W.heap[w.heap.size]? = some (.deferred (some [])))
      (fun pre W => ∃ c, Ix c pre W ∧ W.heap[w.heap.size + 1]? = some (.loop (rec .done (some c))) ∧ W.heap[w.heap.size]? = some (.deferred (some [])))
      (fun s A B hs hk => ⟨Nat.le_trans hs.1 hk.size, hI s A B hs.2.1 (hk.mono (fun k _ h => .inl h)), hk.at_ hs.2.2.1 (fun h => (notQ h).2 rfl), hk.at_ hs.2.2.2 (fun h => (notQ h).1 rfl)⟩)
      (fun s A B hs hk => by
        obtain ⟨c, hc, hl, hd⟩ := hs
        exact ⟨c, hIx c s A B hc (hk.mono (fun k _ h => .inl h)), hk.at_ hl (fun h => (notQ h).2 rfl), hk.at_ hd (fun h => (notQ h).1 rfl)⟩)
      ?_ ⟨by omega, hI1, hL1, hK1⟩).mono ?_
    · rintro pre x suf V hL ⟨hszV, hiV, hlV, hkV0⟩
      have hy := run_yield (P := P) (args := encs x) hlV (by rw [hrec]; exact hps x)
      rw [hrec] at hy
      refine ⟨fn, _, assign, body, hy, roundIn_of_wpIn hfn (hassign _ pre x suf V _ hL hszV hiV (fun a' W hi hVW => ⟨_, run_beginRound (hVW.at_ hlV (by simp)) (by rw [hrec]), ?_⟩))⟩
      have hl := hVW.at_ hlV (by simp)
      have hk := hVW.at_ hkV0 (by simp)
      have hsz : w.heap.size + 2 ≤ W.heap.size := Nat.le_trans hszV hVW.size
      have hlt : w.heap.size + 1 < W.heap.size := by omega
      have hl2 : (W.putObj (w.heap.size + 1) (.loop { rec .ready none with state := .busy })).heap[w.heap.size + 1]? = some (.loop { rec .ready none with state := .busy }) := World.putObj_heap_same hlt
      have hk2 : (W.putObj (w.heap.size + 1) (.loop { rec .ready none with state := .busy })).heap[w.heap.size]? = some (.deferred (some [])) := (World.putObj_heap_other (by omega)).trans hk
      have hw2 : ∀ (S : Nat → Prop), S (w.heap.size + 1) → Keeps S W (W.putObj (w.heap.size + 1) (.loop { rec .ready none with state := .busy })) := fun S hS => (Keeps.refl S W).putObj _ _ hS
      have notR : ∀ {k}, (R k ∨ w.heap.size + 2 ≤ k) → k ≠ w.heap.size ∧ k ≠ w.heap.size + 1 := fun h => by
        rcases h with h | h
        · have := hR _ h; omega
        · omega
      refine wpIn_mono (hbody _ pre x suf a' _ hL (by simp; omega) (hA _ _ _ _ _ hi (hw2 _ rfl))) ?_
      have fin : ∀ (jump : Option Code) (W3 : World), Keeps (fun k => R k ∨ w.heap.size + 2 ≤ k) (W.putObj (w.heap.size + 1) (.loop { rec .ready none with state := .busy })) W3 →
          (Instr.endRound (w.heap.size + 1) jump).run P W3 = .ok (.bool jump.isNone) (W3.putObj (w.heap.size + 1) (.loop (rec (if jump.isNone then .ready else .done) jump))) ∧
          (W3.putObj (w.heap.size + 1) (.loop (rec (if jump.isNone then .ready else .done) jump))).heap[w.heap.size + 1]? = some (.loop (rec (if jump.isNone then .ready else .done) jump)) ∧
          (W3.putObj (w.heap.size + 1) (.loop (rec (if jump.isNone then .ready else .done) jump))).heap[w.heap.size]? = some (.deferred (some [])) ∧
          w.heap.size + 2 ≤ W3.heap.size := fun jump W3 hk3 => by
        have hl3 := hk3.at_ hl2 (fun h => (notR h).2 rfl)
        have hsz3 : w.heap.size + 2 ≤ W3.heap.size := by have := hk3.size; rw [World.putObj_size] at this; omega
        have := run_endRound (P := P) jump hl3
        rw [hrec] at this ⊢
        exact ⟨this, World.putObj_heap_same (by omega), (World.putObj_heap_other (by omega)).trans (hk3.at_ hk2 (fun h => (notR h).1 rfl)), hsz3⟩
      have hback : ∀ (W3 : World) (o : Obj), w.heap.size + 2 ≤ W3.heap.size → Keeps (fun k => Q k ∨ k = w.heap.size ∨ k = w.heap.size + 1) W3 (W3.putObj (w.heap.size + 1) o) := fun W3 o _ => (Keeps.refl _ W3).putObj _ _ (.inr (.inr rfl))
      rintro e a3 W3 hp
      cases e with
      | normal =>
        obtain ⟨hk3, hi3⟩ := hp
        obtain ⟨hr, hl4, hk4, hz⟩ := fin none W3 hk3
        have hc : ∀ k, R k ∨ w.heap.size + 2 ≤ k → (R k ∨ W1.heap.size ≤ k) := fun k h => by rw [hs1]; exact h
        refine ⟨_, _, hr, .inl ⟨rfl, ⟨by simp; omega, hI _ _ _ hi3 (hback _ _ hz), hl4, hk4⟩, ?_⟩⟩
        -- across the whole round the record is as it was
        refine (hVW.mono (fun _ _ h => h.elim)).trans ⟨hk3.os, hk3.tape, hk3.output, by have := hk3.size; simp at this ⊢; omega, fun k hk' hn => ?_⟩
        by_cases e : k = w.heap.size + 1
        · subst e; exact hl4.trans hl.symm
        · rw [World.putObj_heap_other e, hk3.block k (by simp; omega) (fun h => hn (hc k h)), World.putObj_heap_other e]
      | ret =>
        obtain ⟨hk3, hi3⟩ := hp
        obtain ⟨hr, hl4, hk4, hz⟩ := fin (some .ret) W3 hk3
        exact ⟨_, _, hr, .inr ⟨rfl, .ret, hIx _ _ _ _ hi3 (hback _ _ hz), hl4, hk4⟩⟩
      | exit id =>
        obtain ⟨hk3, hi3⟩ := hp
        obtain ⟨hr, hl4, hk4, hz⟩ := fin (some (.exit id)) W3 hk3
        exact ⟨_, _, hr, .inr ⟨rfl, .exit id, hIx _ _ _ _ hi3 (hback _ _ hz), hl4, hk4⟩⟩
      | goto t =>
        obtain ⟨hk3, hi3⟩ := hp
        obtain ⟨hr, hl4, hk4, hz⟩ := fin (some (.goto t)) W3 hk3
        exact ⟨_, _, hr, .inr ⟨rfl, .goto t, hIx _ _ _ _ hi3 (hback _ _ hz), hl4, hk4⟩⟩
      | panic ch => exact hp.elim
      | outgrown => exact hp.elim
    · have hback : ∀ (W3 : World) (o : Obj), Keeps (fun k => Q k ∨ k = w.heap.size ∨ k = w.heap.size + 1) W3 (W3.putObj (w.heap.size + 1) o) := fun W3 o => (Keeps.refl _ W3).putObj _ _ (.inr (.inr rfl))
      rintro e W2 ⟨⟨v, rfl⟩, (⟨_, hi, hl, hk⟩ | ⟨pre, suf, hL, c, hi, hl, hk⟩)⟩
      · exact ⟨none, _, by have := run_endLoop (P := P) hl (by rw [hrec]; simp); rw [hrec] at this; exact this, hdone _ (hI _ _ _ hi (hback _ _)) ((World.putObj_heap_other (by omega)).trans hk)⟩
      · exact ⟨some c, _, by have := run_endLoop (P := P) hl (by rw [hrec]; simp); rw [hrec] at this; exact this, hstop c pre suf _ hL (hIx c _ _ _ hi (hback _ _)) ((World.putObj_heap_other (by omega)).trans hk)⟩
theorem wp_rangeA_plain {α : Type} {P : Program} {g : Operand} {ps : Array Tmp} {assign body : Code} {Q' : Exit → Act → World → Prop} {a : Act} {w : World}
    {gf : Nat} {lb : Array Value} (hg : a.eval g = .func (.func gf) #[] lb) (eg : ∀ args w, (callFunc gf args).run P w = .ok (.enter gf args) w)
    {encs : α → Array Value} {Q R : Nat → Prop} {L : List α} (hit : ∀ W, Keeps (fun _ => False) w W → Iter P gf lb encs Q R L W)
    (hQ : ∀ k, Q k → k < w.heap.size) (hR : ∀ k, R k → k < w.heap.size) (hps : ∀ x, (encs x).size = ps.size)
    (I : List α → World → Prop) (Ix : Code → List α → World → Prop) (hI : Stable (fun k => Q k ∨ k = w.heap.size ∨ k = w.heap.size + 1) I)
    (hIx : ∀ c, Stable (fun k => Q k ∨ k = w.heap.size ∨ k = w.heap.size + 1) (Ix c)) (h0 : I [] w) (A : List α → α → Act → World → Prop) (hA : ∀ pre x a' W W', A pre x a' W → Keeps (fun k => k = w.heap.size + 1) W W' → A pre x a' W')
    (hassign : ∀ (l : Nat) (pre : List α) (x : α) (suf : List α) (W : World) (K : Act → World → Prop), L = pre ++ x :: suf → w.heap.size + 2 ≤ W.heap.size → I pre W → (∀ a' W', A pre x a' W' → Keeps (fun _ => False) W W' → K a' W') →
      assign.wpIn (Fence.wide.inRound l) 0 P (Exit.then K (fun _ _ _ => False)) { tmps := (ps.zip (encs x)).foldl (fun t (p, v) => t.setIfInBounds p v) a.tmps, defers := [] } W)
    (hbody : ∀ (l : Nat) (pre : List α) (x : α) (suf : List α) (a' : Act) (W : World), L = pre ++ x :: suf → w.heap.size + 2 ≤ W.heap.size → A pre x a' W →
      body.wpIn (Fence.wide.inRound l) 0 P (roundEnd (fun k => R k ∨ w.heap.size + 2 ≤ k) I Ix (pre ++ [x]) W) a' W)
    (hdone : ∀ (W : World), I L W → W.heap[w.heap.size]? = some (.deferred (some [])) → Q' .normal { a with defers := { target := .collected w.heap.size, args := #[] } :: a.defers } W)
    (hstop : ∀ (c : Code) (pre suf : List α) (W : World), L = pre ++ suf → Ix c pre W → W.heap[w.heap.size]? = some (.deferred (some [])) →
      c.wp P Q' { a with defers := { target := .collected w.heap.size, args := #[] } :: a.defers } W) :
    (Code.rangeFunc g ps assign body).wp P Q' a w :=
  (wpIn_wide (n := 0)).1 (wp_rangeA hg eg hit hQ hR hps I Ix hI hIx h0 A hA hassign hbody hdone (fun c pre suf W hl hi hd => wpIn_wide.2 (hstop c pre suf W hl hi hd)))
section
variable {F : Fence} {n : Nat} {P : Program} {ops : Array Oper} {rest : List Oper} {o : Oper} {a : Act} {Q : Exit → Act → World → Prop} {W w1 : World}
theorem in_run (hgd : o.guard = none) (hnc : ∀ c, o.op ≠ .call c) (hnd : ∀ c, o.op ≠ .defer c) {v : Value} (hrun : (execOp a.eval o).run P W = .ok (.value v) w1) (h : wpListIn F n P ops Q rest (a.put o.dst v) w1) : wpListIn F n P ops Q (o :: rest) a W := by
  refine wpListIn_plain hgd fun K hK' => ?_
  unfold Oper.wpIn
  refine ⟨?_, ?_⟩
  · have : o.about P W a.eval = none := by
      unfold Oper.about
      split
      · rename_i c hc; exact absurd hc (hnc c)
      · rfl
    simp [this]
  · rw [Oper.semAt_plain F _ _ (fun c hc => absurd hc (hnd c)), hrun]
    exact hK' _ _ h
theorem in_skip (hgd : o.guard = none) (hnc : ∀ c, o.op ≠ .call c) (hnd : ∀ c, o.op ≠ .defer c) (hrun : (execOp a.eval o).run P W = .ok .skip w1) (h : wpListIn F n P ops Q rest (a.put o.dst undef) w1) : wpListIn F n P ops Q (o :: rest) a W := by
  refine wpListIn_plain hgd fun K hK' => ?_
  unfold Oper.wpIn
  refine ⟨?_, ?_⟩
  · have : o.about P W a.eval = none := by
      unfold Oper.about
      split
      · rename_i c hc; exact absurd hc (hnc c)
      · rfl
    simp [this]
  · rw [Oper.semAt_plain F _ _ (fun c hc => absurd hc (hnd c)), hrun]
    exact hK' _ _ h
theorem in_row (N : Tmp) (_hd : o.dst = some N) (hgd : o.guard = none) (hnc : ∀ c, o.op ≠ .call c) (hnd : ∀ c, o.op ≠ .defer c) {cs : Array Value} {t : TypeId} {m : Nat} (hrun : (execOp a.eval o).run P W = .ok (.value (.slice (some ⟨W.heap.size, 0, none⟩) m m)) (W.alloc (.cells cs t (0, 0))))
    (h : ∀ g, g = W.heap.size → ∀ w1, w1.heap[g]? = some (.cells cs t (0, 0)) → Below W.heap.size W w1 → w1.heap.size = W.heap.size + 1 → wpListIn F n P ops Q rest (a.put o.dst (.slice (some ⟨g, 0, none⟩) m m)) w1) : wpListIn F n P ops Q (o :: rest) a W :=
  in_run hgd hnc hnd hrun (h _ rfl _ (World.alloc_heap_new W _) (((Keeps.refl (fun _ => False) W).alloc _).below (Nat.le_refl _) (by simp)) (World.size_alloc _ _))
theorem in_box (N : Tmp) (_hd : o.dst = some N) (hgd : o.guard = none) (hnc : ∀ c, o.op ≠ .call c) (hnd : ∀ c, o.op ≠ .defer c) {cs : Array Value} {t : TypeId} (hrun : (execOp a.eval o).run P W = .ok (.value (.pointer (some ⟨W.heap.size, 0, none⟩))) (W.alloc (.cells cs t (0, 0))))
    (h : ∀ g, g = W.heap.size → ∀ w1, w1.heap[g]? = some (.cells cs t (0, 0)) → Below W.heap.size W w1 → w1.heap.size = W.heap.size + 1 → wpListIn F n P ops Q rest (a.put o.dst (.pointer (some ⟨g, 0, none⟩))) w1) : wpListIn F n P ops Q (o :: rest) a W :=
  in_run hgd hnc hnd hrun (h _ rfl _ (World.alloc_heap_new W _) (((Keeps.refl (fun _ => False) W).alloc _).below (Nat.le_refl _) (by simp)) (World.size_alloc _ _))
end
end Go.RF
namespace Go.Proofs.Ytgdhciilobnelaa.B
open Go.RowKit Go.Lib Go.Proofs.YtgdhciilobnelaaW.PrintWords Go.Proofs.YtgdhciilobnelaaW.PrintLast Go.Proofs.YtgdhciilobnelaaW.PrintMore Go.RF
set_option linter.unusedVariables false
set_option linter.unusedSimpArgs false
attribute [local go_sem] max2_int min2_int max_two min_two
theorem wide_id {n : Nat} (h1 : 1 ≤ n) (h8 : n ≤ 8) : sundialref01_wide.f (n : Int) = some (n : Int) := by
  unfold sundialref01_wide.f mx mn
  rw [if_neg (by omega), if_neg (by omega)]
theorem shr_byte (x : Int) {i : Nat} (hi : i < 8) : shr .u64 x (IntKind.u64.wrap (wrap64 (8 * (i : Int)))) % 256 = byteN x i := by
  have h1 : wrap64 (8 * (i : Int)) = 8 * (i : Int) := by unfold wrap64; omega
  rw [h1, wrapU (by omega) (by omega)]
  unfold shr byteN
  rw [show (8 * (i : Int)).toNat = 8 * i by omega, show min (8 * i) IntKind.u64.bits = 8 * i by show min (8 * i) 64 = 8 * i; omega]
theorem bytes_loop (x : Int) (n : Nat) (h1 : 1 ≤ n) (h8 : n ≤ 8) : ∀ (d i k : Nat), i + d = n → d < k → sundialref01_Bytes.l0 k x (n : Int) (bytesN x i) (i : Int) = some (bytesN x n)
  | _, _, 0, _, h => absurd h (by omega)
  | 0, i, k + 1, hi, _ => by
    obtain rfl : i = n := by omega
    unfold sundialref01_Bytes.l0
    rw [wide_id h1 h8]
    show (if (i : Int) < (i : Int) then _ else _) = _
    rw [if_neg (by omega)]
  | d + 1, i, k + 1, hi, hk => by
    unfold sundialref01_Bytes.l0
    rw [wide_id h1 h8]
    show (if (i : Int) < (n : Int) then _ else _) = _
    have hw : 0 ≤ IntKind.u64.wrap (wrap64 (8 * (i : Int))) := by
      have e1 : wrap64 (8 * (i : Int)) = 8 * (i : Int) := by unfold wrap64; omega
      rw [e1, wrapU (by omega) (by omega)]; omega
    rw [if_pos (by omega), if_pos hw, if_pos (by rw [bytesN_length]; omega), shr_byte x (by omega), ← bytesN_succ, show wrap64 ((i : Int) + 1) = ((i + 1 : Nat) : Int) by unfold wrap64; omega]
    exact bytes_loop x n h1 h8 d (i + 1) k (by omega) (by omega)
theorem bytes_ob (x : Int) (n : Nat) (h1 : 1 ≤ n) (h8 : n ≤ 8) (w : World) : Calls Try.prog 32 #[.int .u64 x, .int .i64 (n : Int)] w fun e w' => ∃ g cap, e = .returned (.slice (some ⟨g, 0, none⟩) n cap) ∧ OB w.heap.size g cap (bytesN x n) w' ∧ Below w.heap.size w w' := by
  refine (sundialref01_Bytes.calls 10 x (n : Int) (bytesN x n) w (bytes_loop x n h1 h8 n 0 10 (by omega) (by omega))).mono ?_
  rintro e w' ⟨v, rfl, hr, hb⟩
  obtain ⟨g, cap, rfl, hO⟩ := OB.of_R hr (by rw [bytesN_length]; omega)
  rw [bytesN_length]
  exact ⟨g, cap, rfl, hO, hb⟩
theorem OB.keeps {b g cap q : Nat} {xs : List Int} {w w' : World} (h : OB b g cap xs w) (hk : Keeps (fun k => k = q) w w') (hq : g ≠ q) : OB b g cap xs w' := by
  obtain ⟨hg, cs, hc, hr⟩ := h
  exact ⟨hg, cs, hk.at_ hc hq, hr⟩
theorem keeps_row (w : World) (g : Nat) (cs : Array Value) : Keeps (fun k => k = g) w (w.setRow g cs) :=
  have q := below_setRow (Below.refl 0 w) (Nat.zero_le g) cs
  ⟨q.os, q.tape, q.output, q.size, fun k _ hn => setRow_other w g k cs hn⟩
set_option maxHeartbeats 8000000 in
set_option maxRecDepth 100000 in
theorem put_calls (b g cap m : Nat) (xs : List Int) (a n : Nat) (x : Int) (w : World) (hO : OB b g cap xs w) (hm : xs.length = m) (hfit : a + n ≤ m) (h1 : 1 ≤ n) (h8 : n ≤ 8) (hml : m ≤ 1000000) :
    Calls Try.prog 18 #[.slice (some ⟨g, 0, none⟩) m cap, .int .i64 (a : Int), .int .u64 x, .int .i64 (n : Int)] w fun e w' => (∃ v, e = .returned v) ∧ OB b g cap (splice xs a (bytesN x n)) w' ∧ Keeps (fun k => k = g) w w' := by
  have HO := Aside0.mk hO
  have HM := Aside0.mk hm
  have HCAP := Aside0.mk (show m ≤ cap by rw [← hm]; exact hO.cap_le)
  have HGL := Aside0.mk hO.lt
  clear hO hm
  go_enter Try.func18, Try.ntmps18
  refine RS.wp_choice (C := Nat × Nat) (by kernel_rfl) (fun c => [(16, .slice (some ⟨c.1, 0, none⟩) n c.2)] ++ [(8, .slice (some ⟨g, 0, none⟩) m cap), (9, .int .i64 (a : Int)), (10, .int .i64 (a : Int)), (11, .int .i64 (n : Int)), (12, .int .i64 ((a + n : Nat) : Int)), (13, .slice (some ⟨g, a, none⟩) n (cap - a)), (14, .int .u64 x), (15, .int .i64 (n : Int)), (17, (goInt ((n : Nat) : Int)))])
    (fun f c W => Keeps (fun k => k = g) w W ∧ (f 8 = true → OB w.heap.size c.1 c.2 (bytesN x n) W) ∧ OB b g cap (bif f 9 then splice xs a (bytesN x n) else xs) W) (by kernel_rfl) (fun c => by kernel_rfl) (0, 0) (fun f hk => ?_) ?_ ?_
  · exact ⟨(Keeps.refl _ w).drew, fun e => (by rw [hk 8 (by decide)] at e; cases e), by rw [hk 9 (by decide)]; exact HO.out.met (bY_ (Below.refl _ _))⟩
  · exact ⟨RS.StepC.of (fun c => RS.StepE.pure 8 (by kernel_rfl) rfl (fun w => by kernel_rfl) (fun f w h => h)),
      RS.StepC.of (fun c => RS.StepE.pure 9 (by kernel_rfl) rfl (fun w => by kernel_rfl) (fun f w h => h)),
      RS.StepC.of (fun c => RS.StepE.pure 10 (by kernel_rfl) rfl (fun w => by kernel_rfl) (fun f w h => h)),
      RS.StepC.of (fun c => RS.StepE.pure 11 (by kernel_rfl) rfl (fun w => by kernel_rfl) (fun f w h => h)),
      RS.StepC.of (fun c => RS.StepE.load 12 (.int .i64 ((a + n : Nat) : Int)) (by kernel_rfl) (by kernel_rfl) rfl (fun f w h => h) (fun f w p1 p2 h => run_bin rfl (by kernel_rfl) (by kernel_rfl) (by kernel_rfl) (by rw [show ((a + n : Nat) : Int) = (a : Int) + (n : Int) by omega]; exact add_i (by omega) (by omega) w))),
      RS.StepC.of (fun c => RS.StepE.load 13 (.slice (some ⟨g, a, none⟩) n (cap - a)) (by kernel_rfl) (by kernel_rfl) rfl (fun f w h => h) (fun f w p1 p2 h => run_slice2 rfl (by kernel_rfl) (by kernel_rfl) (by kernel_rfl) ((slice_ab g m cap a (a + n) (by omega) (by have := HCAP.out; omega) w).trans (by rw [show a + n - a = n by omega])))),
      RS.StepC.of (fun c => RS.StepE.pure 14 (by kernel_rfl) rfl (fun w => by kernel_rfl) (fun f w h => h)),
      RS.StepC.of (fun c => RS.StepE.pure 15 (by kernel_rfl) rfl (fun w => by kernel_rfl) (fun f w h => h)),
      RS.StepC.chooseCall 32 (fun c => #[.int .u64 x, .int .i64 (n : Int)]) (fun c => by kernel_rfl) (fun c w => by kernel_rfl) (fun f c wq h0 p1 p2 h => by
        have h0 : f 8 = false := h0
        have e9 : f 9 = false := p2 9 (by kernel_rfl) (by decide)
        refine (bytes_ob x n h1 h8 wq).mono ?_
        rintro e w' ⟨gq, cq, rfl, hO', hb⟩
        refine ⟨_, (gq, cq), rfl, fun d hd => by cases hd; kernel_rfl, RS.many_but (md := .any) [(8, 16)] (by kernel_rfl) rfl rfl (by kernel_rfl) (by simp [h0]), ?_⟩
        exact ⟨h.1.trans (Keeps.of_below hb (fun k hk _ => hk)), fun _ => hO'.mono h.1.size, h.2.2.met hb⟩),
      RS.StepC.of (fun c => RS.StepE.event (goInt ((n : Nat) : Int)) (by intro d hd; cases hd; kernel_rfl) (by kernel_rfl) (fun f wq h0 p1 p2 h => by
        have h0 : f 9 = false := h0
        have e8 : f 8 = true := p1 8 (by kernel_rfl)
        obtain ⟨q1, q2, q3⟩ := h
        have q3 : OB b g cap xs wq := by rw [h0] at q3; exact q3
        have q2 := q2 e8
        have hne : c.1 ≠ g := by have := q2.1; have := HGL.out; omega
        exact OB.copyE (n := n) (at_ := a) (sc := c.2) (dc := cap - a) (ad := ⟨c.1, 0, none⟩) q3 rfl (by kernel_rfl) (by kernel_rfl) (bytesN_length _ _) (fun j hj => by rw [addz]; exact q2.cell j (by rw [bytesN_length]; exact hj)) (by rw [HM.out]; exact hfit) (fun cs hO' => ⟨(q1.trans (keeps_row wq g cs)), fun _ => q2.farRow hne cs, hO'⟩))), trivial⟩
  rintro f c w1 hk ⟨q1, -, q3⟩
  rw [hk 9] at q3
  have Q1 := Aside0.mk q1
  have Q3 := Aside0.mk q3
  clear q1 q3
  (try simp only [List.cons_append, List.nil_append, RS.sets, List.setIfInBounds_toArray, List.set_cons_zero, List.set_cons_succ])
  go_end0
  exact ⟨⟨_, rfl⟩, Q3.out, Q1.out⟩
end Go.Proofs.Ytgdhciilobnelaa.B
namespace Go.Proofs.Ytgdhciilobnelaa.B
open Go.RowKit Go.Lib Go.Proofs.YtgdhciilobnelaaW.PrintWords Go.Proofs.YtgdhciilobnelaaW.PrintLast Go.Proofs.YtgdhciilobnelaaW.PrintMore Go.RF
set_option linter.unusedVariables false
set_option linter.unusedSimpArgs false
attribute [local go_sem] max2_int min2_int max_two min_two
def strB (s : ByteArray) : List Int := s.data.toList.map fun b => (b.toNat : Int)
theorem strB_length (s : ByteArray) : (strB s).length = s.size := by unfold strB; rw [List.length_map]; rfl
theorem run_append_str_at {P : Program} (w : World) (base : Nat) (t u ty e : TypeId) (i : TypeInfo) (ht : P.underlying t = some (.slice e)) (hu : P.underlying u = some .string) (hi : P.info? e = some i) (hz : i.zero = some (.int .u8 0)) (hsize : i.size = 1) (hby : i.bytes = 1)
    (v : Value) (n : Nat) (xs : List Value) (hown : w.ownsRow base e 1 v n xs) (hn0 : 0 < n) (s : ByteArray) (h63 : n + s.size ≤ maxLen) (hbytes : n + s.size ≤ 140737488355328) (hbase : base ≤ w.heap.size) :
    ∃ v' w', (Builtin.append_ #[t, u] ty #[v, .string s]).run P w = .ok v' w' ∧ w'.ownsRow base e 1 v' (n + s.size) (xs ++ Lib.strCells s) ∧ w.grownBy w' v.ownBlock ∧ (v'.ownBlock = v.ownBlock ∨ v'.ownBlock = some w.heap.size) := by
  obtain ⟨v', w', hr, h2, h3, -⟩ := Lib.run_append_own_string (P := P) w base t u ty e i ht hu hi hz hsize hby v n xs hown s h63 hbytes hbase
  refine ⟨v', w', hr, h2, h3, ?_⟩
  have hxl : xs.length = n := by simpa using hown.1
  rcases hown.2 with ⟨rfl, rfl⟩ | ⟨g, cap, cur, rfl, hbg, hg, hnc, hcm, hcs, htake⟩
  · exact absurd hn0 (by decide)
  · by_cases hroom : n + s.size ≤ cap
    · have hcs' : cur.size = cap := by simpa using hcs
      have h := Lib.run_append_room_string (P := P) w t u ty e i ht hu hi hsize g n cap cur hg s hroom (by omega)
      rw [hr] at h
      injection h with h _
      left
      rw [h]
      rfl
    · have holds : ∀ j u, xs[j]? = some u → w.cell? ((⟨g, 0, none⟩ : Addr).add j) = some u := hown.cells (g := g) rfl
      have h := Lib.run_append_grow_string (P := P) w t u ty e i (.int .u8 0) ht hu hi hz ⟨g, 0, none⟩ n cap xs (by rw [hsize]; simpa using hxl) holds s (by omega) (by unfold maxLen at h63; omega) (by rw [hby]; exact growslice_fits (by omega) (by omega))
      rw [hr] at h
      injection h with h _
      right
      rw [h]
      simp [Value.ownBlock]
theorem append_str {P : Program} {ops : Array Oper} {rest : List Oper} {o : Oper} {a : Act} {Q : Exit → Act → World → Prop} {w : World} (base : Nat) (hgd : o.guard = none) (sl x : Operand) (t u e : TypeId)
    (ho : o.op = .call { callee := .builtin .append, args := #[sl, x], argTypes := #[t, u] })
    (ht : P.underlying t = some (.slice e)) (hu : P.underlying u = some .string) (hinfo : (P.info? e).map (fun i => (i.zero, i.size, i.bytes)) = some (some (.int .u8 0), 1, 1))
    (v : Value) (xs : List Int) (y : ByteArray) (hs : a.eval sl = v) (hx : a.eval x = .string y) (hown : w.ownsRow base e 1 v xs.length (nums .u8 xs)) (h0 : 0 < xs.length) (hl : xs.length + y.size ≤ 140737488355328) (hbase : base ≤ w.heap.size)
    (h : ∀ v1 w1, w1.ownsRow base e 1 v1 (xs ++ strB y).length (nums .u8 (xs ++ strB y)) → w.grownBy w1 v.ownBlock → (v1.ownBlock = v.ownBlock ∨ v1.ownBlock = some w.heap.size) → wpList P ops Q rest (a.put o.dst v1) w1) : wpList P ops Q (o :: rest) a w := by
  obtain ⟨i0, hi, hzz⟩ := Option.map_eq_some_iff.1 hinfo
  simp only [Prod.mk.injEq] at hzz
  obtain ⟨hz0, hz1, hz2⟩ := hzz
  refine wpList_plain hgd fun K hK => ?_
  obtain ⟨v', w', hr, h2, h3, h4⟩ := run_append_str_at (P := P) w base t u o.type e i0 ht hu hi hz0 hz1 hz2 v xs.length (nums .u8 xs) hown h0 y (by unfold maxLen; omega) hl hbase
  unfold Oper.wp execOp
  simp only [ho, resolve, invoke, builtin, Sem.run_bind, Sem.run_pure, Result.andThen_ok, List.map_toArray, List.map_cons, List.map_nil, hs, hx, hr]
  have hl2 : (xs ++ strB y).length = xs.length + y.size := by rw [List.length_append, strB_length]
  have hc : nums .u8 (xs ++ strB y) = nums .u8 xs ++ Lib.strCells y := by
    rw [nums_append]
    congr 1
    simp [nums, strB, Lib.strCells]
  exact hK _ _ (h v' w' (by rw [hl2, hc]; exact h2) h3 h4)
end Go.Proofs.Ytgdhciilobnelaa.B
