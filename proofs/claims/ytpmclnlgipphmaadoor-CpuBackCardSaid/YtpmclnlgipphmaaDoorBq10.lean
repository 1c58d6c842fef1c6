/- A region that draws its order, all of whose operations tell settled values: whatever order comes, the frame behind is the same. Arrays of bytes compared with themselves, parts of a CPU read, bits of words. -/
import Derived.Orders
import Derived.Tactics
import Derived.Test.YtpmclnlgipphmaaDoorBq9
import Derived.Deep.MidRow
namespace Go.RS
set_option linter.unusedVariables false
def Tells (P : Program) (o : Oper) (ρ : Operand → Value) (w : World) (R : Value → World → Prop) : Prop :=
  match (execOp ρ o).run P w with
  | .ok (.value v) w' => R v w'
  | .ok .skip w' => R undef w'
  | .ok (.enter f args) w' => Calls P f args w' fun e w2 => ∃ v, e = .returned v ∧ R v w2
  | _ => False
theorem Tells.wp {P : Program} {o : Oper} {a : Act} {w : World} {R : Value → World → Prop} {K : Act → World → Prop} {Q : Exit → Act → World → Prop}
    (h : Tells P o a.eval w R) (hK : ∀ v w', R v w' → K (a.put o.dst v) w') : o.wp P a w K Q := by
  unfold Oper.wp
  unfold Tells at h
  generalize (execOp a.eval o).run P w = r at h ⊢
  cases r with
  | ok x w' =>
    cases x with
    | value v => exact hK _ _ h
    | skip => exact hK _ _ h
    | enter f args => exact Calls.mono h fun e w2 he => by obtain ⟨v, rfl, hr⟩ := he; exact hK _ _ hr
    | _ => exact h.elim
  | halt x w' => exact h.elim
theorem Array.any_iff_exists' {α : Type} {p : α → Bool} {A : Array α} (h : A.any p = true) : ∃ x, x ∈ A ∧ p x = true := by
  rw [Array.any_eq_true] at h
  obtain ⟨i, hi, hp⟩ := h
  exact ⟨A[i], Array.getElem_mem hi, hp⟩
def depsOk (md : Region.Mode) (ops : Array Oper) : Bool :=
  (List.range ops.size).all fun i =>
    match ops[i]? with
    | none => true
    | some o =>
      o.after.all (fun e => !Region.binds md e || decide (e.on < i)) &&
      (o.looksAt ops).all (fun t => (List.range ops.size).all fun j =>
        match ops[j]? with
        | none => true
        | some p => p.dst != some t || o.after.any (fun e => Region.binds md e && e.on == j)) &&
      (match o.dst with
       | none => true
       | some d => (List.range ops.size).all fun j => j == i || (match ops[j]? with | none => true | some p => p.dst != some d)) &&
      (match o.op with | .select _ _ => false | _ => true)
theorem deps_spec {md : Region.Mode} {ops : Array Oper} (h : depsOk md ops = true) {i : Nat} {o : Oper} (hi : ops[i]? = some o) :
    (∀ e ∈ o.after, Region.binds md e = true → e.on < i) ∧
    (∀ t ∈ o.looksAt ops, ∀ j p, ops[j]? = some p → p.dst = some t → ∃ e ∈ o.after, Region.binds md e = true ∧ e.on = j) ∧
    (∀ d, o.dst = some d → ∀ j p, ops[j]? = some p → p.dst = some d → j = i) ∧ (∀ cs b, o.op ≠ .select cs b) := by
  have hlt : ∀ {j : Nat} {p : Oper}, ops[j]? = some p → j < ops.size := fun hj => (Array.getElem?_eq_some_iff.1 hj).1
  unfold depsOk at h
  have h1 := List.all_eq_true.1 h i (List.mem_range.2 (hlt hi))
  simp only [hi, Bool.and_eq_true] at h1
  obtain ⟨⟨⟨a1, a2⟩, a3⟩, a4⟩ := h1
  refine ⟨fun e he hb => ?_, fun t ht j p hj hd => ?_, fun d hd j p hj hp => ?_, fun cs b e => ?_⟩
  · have := Array.all_eq_true_iff_forall_mem.1 a1 e he
    simpa [hb] using this
  · have := List.all_eq_true.1 (List.all_eq_true.1 a2 t ht) j (List.mem_range.2 (hlt hj))
    simp only [hj, hd, bne_self_eq_false, Bool.false_or] at this
    obtain ⟨e, he, hb⟩ := (Array.any_iff_exists' this)
    simp only [Bool.and_eq_true, beq_iff_eq] at hb
    exact ⟨e, he, hb.1, hb.2⟩
  · simp only [hd] at a3
    have := List.all_eq_true.1 a3 j (List.mem_range.2 (hlt hj))
    simpa [hj, hp] using this
  · rw [e] at a4
    cases a4
def Inv (ops : Array Oper) (T : Array Value) (a0 : Act) (listed : Array Bool) (a : Act) : Prop :=
  a.defers = a0.defers ∧ a.tmps.size = a0.tmps.size ∧
  (∀ i o d, ops[i]? = some o → o.dst = some d → listed.getD i true = true → a.tmps.getD d undef = T.getD d undef) ∧
  (∀ t, (∀ i o, ops[i]? = some o → o.dst = some t → listed.getD i true = false) → a.tmps.getD t undef = a0.tmps.getD t undef)
def StepOK (P : Program) (ops : Array Oper) (T : Array Value) (S : World → Prop) (o : Oper) : Prop :=
  (Region.wanted o (yielded ops T) = true → ∀ w, S w → Tells P o (Act.eval ⟨T, []⟩) w fun u w' => (∀ d, o.dst = some d → T.getD d undef = u) ∧ S w') ∧
  (Region.wanted o (yielded ops T) = false → ∀ d, o.dst = some d → T.getD d undef = undef)
def AllOK (P : Program) (ops : Array Oper) (T : Array Value) (S : World → Prop) : List Oper → Prop
  | [] => True
  | o :: r => StepOK P ops T S o ∧ AllOK P ops T S r
theorem AllOK.mem {P : Program} {ops : Array Oper} {T : Array Value} {S : World → Prop} : ∀ {l : List Oper}, AllOK P ops T S l → ∀ o ∈ l, StepOK P ops T S o
  | [], _, o, ho => by cases ho
  | p :: r, h, o, ho => by
    rcases List.mem_cons.1 ho with rfl | ho
    · exact h.1
    · exact AllOK.mem h.2 o ho
def unl (ops : Array Oper) (listed : Array Bool) : Nat := (List.range ops.size).countP fun i => !listed.getD i true
theorem getD_set {A : Array Value} {d t : Nat} {v : Value} : (A.setIfInBounds d v).getD t undef = if d = t ∧ d < A.size then v else A.getD t undef := by
  simp only [Array.getD_eq_getD_getElem?, Array.getElem?_setIfInBounds]
  by_cases e : d = t
  · subst e
    by_cases h : d < A.size
    · simp [h]
    · simp [h]
  · simp [e]
theorem listed_set {A : Array Bool} {i j : Nat} (hi : A.getD i true = false) : (A.setIfInBounds i true).getD j true = (if i = j then true else A.getD j true) := by
  simp only [Array.getD_eq_getD_getElem?, Array.getElem?_setIfInBounds] at hi ⊢
  by_cases e : i = j
  · subst e
    by_cases h : i < A.size
    · simp [h]
    · simp [h]
  · simp [e]
theorem unl_set {ops : Array Oper} {listed : Array Bool} {i : Nat} (hi : i < ops.size) (hl : listed.getD i true = false) : unl ops (listed.setIfInBounds i true) < unl ops listed := by
  unfold unl
  have hmem : i ∈ List.range ops.size := List.mem_range.2 hi
  generalize List.range ops.size = l at hmem
  have hle : ∀ l : List Nat, l.countP (fun j => !(listed.setIfInBounds i true).getD j true) ≤ l.countP (fun j => !listed.getD j true) := fun l =>
    List.countP_mono_left fun j _ h => by
      rw [listed_set hl] at h
      split at h
      · cases h
      · exact h
  induction l with
  | nil => cases hmem
  | cons j r ih =>
    by_cases e : j = i
    · subst e
      have := hle r
      simp only [List.countP_cons, listed_set hl, if_true, hl, Bool.not_true, Bool.not_false, Bool.false_eq_true, if_false]
      simp only [listed_set hl] at this
      omega
    · have := ih ((List.mem_cons.1 hmem).resolve_left (fun h => e h.symm))
      have e2 : ((!(listed.setIfInBounds i true).getD j true) = true) = ((!listed.getD j true) = true) := by rw [listed_set hl, if_neg (fun h => e h.symm)]
      simp only [List.countP_cons, e2] at this ⊢
      omega
theorem ready_spec {md : Region.Mode} {ops : Array Oper} {listed : Array Bool} {i : Nat} (h : i ∈ Region.ready md ops listed) :
    i < ops.size ∧ listed.getD i true = false ∧ ∃ o, ops[i]? = some o ∧ ∀ e ∈ o.after, Region.binds md e = true → listed.getD e.on false = true := by
  unfold Region.ready at h
  obtain ⟨h1, h2⟩ := List.mem_filter.1 h
  have hlt := List.mem_range.1 h1
  simp only [Bool.and_eq_true, Bool.not_eq_true'] at h2
  refine ⟨hlt, h2.1, ops[i], Array.getElem?_eq_getElem hlt, fun e he hb => ?_⟩
  have h3 := h2.2
  rw [Array.getElem?_eq_getElem hlt] at h3
  simp only [Option.map_some, Option.getD_some] at h3
  have := Array.all_eq_true_iff_forall_mem.1 h3 e he
  simpa [hb] using this
theorem all_listed {md : Region.Mode} {ops : Array Oper} {listed : Array Bool} (hd : depsOk md ops = true) (hsz : listed.size = ops.size) (h : Region.ready md ops listed = []) : ∀ i, i < ops.size → listed.getD i true = true := by
  intro i
  induction i using Nat.strongRecOn with
  | ind i ih =>
    intro hi
    cases hl : listed.getD i true with
    | true => rfl
    | false =>
      have ho := Array.getElem?_eq_getElem hi
      have hsp := deps_spec hd ho
      have : i ∈ Region.ready md ops listed := by
        unfold Region.ready
        refine List.mem_filter.2 ⟨List.mem_range.2 hi, ?_⟩
        rw [hl, ho]
        simp only [Bool.not_false, Bool.true_and, Option.map_some, Option.getD_some]
        refine Array.all_eq_true_iff_forall_mem.2 fun e he => ?_
        cases hb : Region.binds md e with
        | false => rfl
        | true =>
          have hlt := hsp.1 e he hb
          have := ih e.on hlt (by omega)
          simp only [Bool.not_true, Bool.false_or]
          rw [Array.getD_eq_getD_getElem?] at this ⊢
          rw [Array.getElem?_eq_getElem (by omega)] at this ⊢
          simpa using this
      rw [h] at this
      cases this
theorem looks_tmp {ops : Array Oper} {o : Oper} {t : Tmp} (h : Operand.tmp t ∈ o.op.operands) : t ∈ o.looksAt ops := List.mem_append_left _ (List.mem_filterMap.2 ⟨.tmp t, by simpa using h, rfl⟩)
theorem looks_guard {ops : Array Oper} {o : Oper} {g : Nat} {b : Bool} {t : Tmp} (h : o.guard = some (g, b)) (ht : (ops[g]?).bind (·.dst) = some t) : t ∈ o.looksAt ops := by
  refine List.mem_append_right _ ?_
  rw [h]
  simp [ht]
theorem step_inv {P : Program} {md : Region.Mode} {ops : Array Oper} {Q : Exit → Act → World → Prop} {T : Array Value} {S : World → Prop} {a0 : Act}
    (hd : depsOk md ops = true) (hsz : T.size = a0.tmps.size) (hT : ∀ t, (∀ (i : Nat) (o : Oper), ops[i]? = some o → o.dst ≠ some t) → T.getD t undef = a0.tmps.getD t undef)
    (hstep : AllOK P ops T S ops.toList) {listed : Array Bool} (hls : listed.size = ops.size) {i : Nat} {o : Oper} (ho : ops[i]? = some o) (hun : listed.getD i true = false)
    (hdep : ∀ e ∈ o.after, Region.binds md e = true → listed.getD e.on false = true) {a : Act} {w : World} (hI : Inv ops T a0 listed a) (hS : S w) {K : Act → World → Prop}
    (hK : ∀ u w', Inv ops T a0 (listed.setIfInBounds i true) (a.put o.dst u) → S w' → K (a.put o.dst u) w') :
    if Region.wanted o (yielded ops a.tmps) then o.wp P a w K Q else K (a.put o.dst undef) w := by
  have hlt := (Array.getElem?_eq_some_iff.1 ho).1
  obtain ⟨d1, d2, d3, d4⟩ := deps_spec hd ho
  have hI' := hI
  obtain ⟨h1, h2, h3, h4⟩ := hI'
  have hsame : ∀ t ∈ o.looksAt ops, a.tmps.getD t undef = T.getD t undef := by
    intro t ht
    by_cases hw : ∃ (j : Nat) (p : Oper), ops[j]? = some p ∧ p.dst = some t
    · obtain ⟨j, p, hj, hp⟩ := hw
      obtain ⟨e, he, hb, rfl⟩ := d2 t ht j p hj hp
      refine h3 e.on p t hj hp ?_
      have := hdep e he hb
      rw [Array.getD_eq_getD_getElem?] at this ⊢
      rw [Array.getElem?_eq_getElem (by have := d1 e he hb; omega)] at this ⊢
      simpa using this
    · rw [hT t (fun j p hj hp => hw ⟨j, p, hj, hp⟩)]
      exact h4 t (fun j p hj hp => absurd ⟨j, p, hj, hp⟩ hw)
  have hev : ∀ x ∈ o.op.operands, a.eval x = Act.eval ⟨T, []⟩ x := by
    intro x hx
    cases x with
    | tmp t => exact hsame t (looks_tmp hx)
    | _ => rfl
  have hwant : Region.wanted o (yielded ops a.tmps) = Region.wanted o (yielded ops T) := by
    unfold Region.wanted
    rcases hg : o.guard with _ | ⟨g, b⟩
    · rfl
    · simp only []
      have : yielded ops a.tmps g = yielded ops T g := by
        unfold yielded
        rcases ht : (ops[g]?).bind (·.dst) with _ | t
        · rfl
        · simp only [Option.bind_some]
          have hs := hsame t (looks_guard hg ht)
          rw [Array.getD_eq_getD_getElem?, Array.getD_eq_getD_getElem?] at hs
          by_cases hlt : t < T.size
          · have hlt' : t < a.tmps.size := by rw [h2, ← hsz]; exact hlt
            have e1 : a.tmps[t]? = some a.tmps[t] := Array.getElem?_eq_getElem hlt'
            have e2 : T[t]? = some T[t] := Array.getElem?_eq_getElem hlt
            rw [e1, e2] at hs ⊢
            simp only [Option.getD_some] at hs
            rw [hs]
          · have e1 : a.tmps[t]? = none := Array.getElem?_eq_none (by rw [h2, ← hsz]; exact Nat.le_of_not_lt hlt)
            have e2 : T[t]? = none := Array.getElem?_eq_none (Nat.le_of_not_lt hlt)
            rw [e1, e2]
      rw [this]
  have hex : execOp a.eval o = execOp (Act.eval ⟨T, []⟩) o := execOp_congr o d4 hev
  have hput : ∀ u w', (∀ d, o.dst = some d → T.getD d undef = u) → S w' → K (a.put o.dst u) w' := by
    intro u w' hu' hS'
    refine hK u w' ?_ hS'
    rcases hdst : o.dst with _ | d
    · refine ⟨h1, h2, fun j p t hj hp hl => ?_, fun t ht => h4 t fun j p hj hp => ?_⟩
      · rw [listed_set hun] at hl
        by_cases e : i = j
        · subst e
          rw [ho] at hj
          cases hj
          rw [hdst] at hp
          cases hp
        · rw [if_neg e] at hl
          exact h3 j p t hj hp hl
      · have := ht j p hj hp
        rw [listed_set hun] at this
        by_cases e : i = j
        · rw [if_pos e] at this; cases this
        · rwa [if_neg e] at this
    · have hv := hu' d hdst
      refine ⟨h1, by simp [Act.put, h2], fun j p t hj hp hl => ?_, fun t ht => ?_⟩
      · simp only [Act.put]
        rw [getD_set]
        rw [listed_set hun] at hl
        by_cases e : i = j
        · subst e
          rw [ho] at hj
          cases hj
          rw [hdst] at hp
          cases hp
          by_cases hlt2 : d < a.tmps.size
          · rw [if_pos ⟨rfl, hlt2⟩, hv]
          · rw [if_neg (fun h => hlt2 h.2)]
            have hge : a.tmps.size ≤ d := Nat.le_of_not_lt (fun h => hlt2 h)
            have e1 : a.tmps[d]? = none := Array.getElem?_eq_none hge
            have e2 : T[d]? = none := Array.getElem?_eq_none (by rw [hsz, ← h2]; exact hge)
            rw [Array.getD_eq_getD_getElem?, Array.getD_eq_getD_getElem?, e1, e2]
        · rw [if_neg e] at hl
          have hne : ¬ (d = t ∧ d < a.tmps.size) := fun h => e (d3 d hdst j p hj (by rw [hp, h.1])).symm
          rw [if_neg hne]
          exact h3 j p t hj hp hl
      · simp only [Act.put]
        rw [getD_set]
        have hne : ¬ (d = t ∧ d < a.tmps.size) := fun h => by
          have := ht i o ho (by rw [hdst, h.1])
          rw [listed_set hun, if_pos rfl] at this
          cases this
        rw [if_neg hne]
        refine h4 t fun j p hj hp => ?_
        have := ht j p hj hp
        rw [listed_set hun] at this
        by_cases e : i = j
        · rw [if_pos e] at this; cases this
        · rwa [if_neg e] at this
  obtain ⟨s1, s2⟩ := hstep.mem o (by rw [Array.mem_toList_iff]; exact Array.mem_of_getElem? ho)
  by_cases hw : Region.wanted o (yielded ops a.tmps) = true
  · rw [if_pos hw]
    refine Tells.wp (R := fun u w' => (∀ d, o.dst = some d → T.getD d undef = u) ∧ S w') ?_ fun u w' hr => hput u w' hr.1 hr.2
    unfold Tells
    rw [hex]
    exact s1 (by rw [← hwant]; exact hw) w hS
  · rw [if_neg hw]
    exact hput undef w (s2 (by rw [← hwant]; simpa using hw)) hS
theorem inv_end {ops : Array Oper} {T : Array Value} {a0 : Act} (hsz : T.size = a0.tmps.size) (hT : ∀ t, (∀ (i : Nat) (o : Oper), ops[i]? = some o → o.dst ≠ some t) → T.getD t undef = a0.tmps.getD t undef)
    {listed : Array Bool} {a : Act} (hI : Inv ops T a0 listed a) (hall : ∀ i, i < ops.size → listed.getD i true = true) : a = { a0 with tmps := T } := by
  obtain ⟨h1, h2, h3, h4⟩ := hI
  have ha : a = { a0 with tmps := T } := by
    have ht : a.tmps = T := by
      refine Array.ext (by omega) fun t ht1 ht2 => ?_
      have : a.tmps.getD t undef = T.getD t undef := by
        by_cases hw : ∃ (i : Nat) (o : Oper), ops[i]? = some o ∧ o.dst = some t
        · obtain ⟨i, o, hi, hdst⟩ := hw
          exact h3 i o t hi hdst (hall i (Array.getElem?_eq_some_iff.1 hi).1)
        · rw [hT t (fun i o hi hdst => hw ⟨i, o, hi, hdst⟩)]
          exact h4 t (fun i o hi hdst => absurd ⟨i, o, hi, hdst⟩ hw)
      rw [Array.getD_eq_getD_getElem?, Array.getD_eq_getD_getElem?, Array.getElem?_eq_getElem ht1, Array.getElem?_eq_getElem ht2] at this
      simpa using this
    cases a
    simp only at h1 ht
    subst h1 ht
    rfl
  exact ha
theorem any_settled {P : Program} {md : Region.Mode} {ops : Array Oper} {Q : Exit → Act → World → Prop} {T : Array Value} {S : World → Prop} {a0 : Act}
    (hd : depsOk md ops = true) (hsz : T.size = a0.tmps.size) (hT : ∀ t, (∀ (i : Nat) (o : Oper), ops[i]? = some o → o.dst ≠ some t) → T.getD t undef = a0.tmps.getD t undef)
    (hstep : AllOK P ops T S ops.toList) (hQ : ∀ w, S w → Q .normal { a0 with tmps := T } w) :
    ∀ (fuel : Nat) (listed : Array Bool) (a : Act) (w : World), listed.size = ops.size → unl ops listed ≤ fuel → Inv ops T a0 listed a → S w → wpAny P md ops Q fuel listed a w := by
  have hend : ∀ (listed : Array Bool) (a : Act) (w : World), listed.size = ops.size → Inv ops T a0 listed a → S w → Region.ready md ops listed = [] → Q .normal a w := by
    intro listed a w hls hI hS hr
    rw [inv_end hsz hT hI (all_listed hd hls hr)]
    exact hQ w hS
  intro fuel
  induction fuel with
  | zero =>
    intro listed a w hls hu hI hS
    have hr : Region.ready md ops listed = [] := by
      rcases hr : Region.ready md ops listed with _ | ⟨i, r⟩
      · rfl
      · have hi : i ∈ Region.ready md ops listed := by rw [hr]; exact List.mem_cons_self
        obtain ⟨h1, h2, -⟩ := ready_spec hi
        have := unl_set h1 h2
        omega
    exact ⟨hr, hend listed a w hls hI hS hr⟩
  | succ fuel ih =>
    intro listed a w hls hu hI hS
    refine ⟨hend listed a w hls hI hS, fun i hi => ?_⟩
    obtain ⟨hlt, hun, o, ho, hdep⟩ := ready_spec hi
    have h := step_inv (Q := Q) hd hsz hT hstep hls ho hun hdep hI hS (K := wpAny P md ops Q fuel (listed.setIfInBounds i true))
      (fun u w' hi' hs' => ih _ _ _ (by simpa using hls) (by have := unl_set hlt hun; omega) hi' hs')
    unfold wpOp
    simp only [ho]
    by_cases hw : Region.wanted o (yielded ops a.tmps) = true
    · rw [if_pos hw] at h ⊢
      exact .inl h
    · rw [if_neg hw] at h ⊢
      exact h
def lk (n k : Nat) : Array Bool := (Array.range n).map fun i => decide (i < k)
theorem lk_get (n k i : Nat) (b : Bool) (h : i < n) : (lk n k).getD i b = decide (i < k) := by
  unfold lk
  rw [Array.getD_eq_getD_getElem?, Array.getElem?_map, Array.getElem?_range]
  simp [h]
theorem lk_set (n k : Nat) (h : k < n) : (lk n k).setIfInBounds k true = lk n (k + 1) := by
  apply Array.ext
  · simp [lk]
  · intro j h1 h2
    have hj : j < n := by simpa [lk] using h2
    have e1 := Array.getElem?_eq_getElem h1
    have e2 := Array.getElem?_eq_getElem h2
    rw [Array.getElem?_setIfInBounds] at e1
    have e3 : (lk n (k + 1))[j]? = some (decide (j < k + 1)) := by unfold lk; rw [Array.getElem?_map, Array.getElem?_range]; simp [hj]
    have e4 : (lk n k)[j]? = some (decide (j < k)) := by unfold lk; rw [Array.getElem?_map, Array.getElem?_range]; simp [hj]
    rw [e3] at e2
    have f2 := Option.some.inj e2
    by_cases e : k = j
    · subst e
      rw [if_pos rfl, if_pos (by simpa [lk] using hj)] at e1
      rw [← Option.some.inj e1, ← f2]
      simp
    · rw [if_neg e, e4] at e1
      rw [← Option.some.inj e1, ← f2, Bool.eq_iff_iff]
      simp only [decide_eq_true_eq]
      omega
theorem seq_settled {P : Program} {l : List Oper} {Q : Exit → Act → World → Prop} {T : Array Value} {S : World → Prop} {a0 : Act}
    (hd : depsOk .any l.toArray = true) (hsz : T.size = a0.tmps.size) (hT : ∀ t, (∀ (i : Nat) (o : Oper), l.toArray[i]? = some o → o.dst ≠ some t) → T.getD t undef = a0.tmps.getD t undef)
    (hstep : AllOK P l.toArray T S l) (hQ : ∀ w, S w → Q .normal { a0 with tmps := T } w) :
    ∀ (suf pre : List Oper) (a : Act) (w : World), l = pre ++ suf → Inv l.toArray T a0 (lk l.length pre.length) a → S w → wpList P l.toArray Q suf a w := by
  intro suf
  induction suf with
  | nil =>
    intro pre a w hl hI hS
    have he : pre.length = l.length := by rw [hl]; simp
    show Q .normal a w
    rw [inv_end hsz hT hI fun i hi => by rw [lk_get _ _ _ _ (by simpa using hi)]; simp at hi; simp; omega]
    exact hQ w hS
  | cons o suf ih =>
    intro pre a w hl hI hS
    have hlen : l.length = pre.length + suf.length + 1 := by rw [hl]; simp; omega
    have ho : l.toArray[pre.length]? = some o := by simp [hl]
    have hsp := deps_spec hd ho
    have h := step_inv (Q := Q) hd hsz hT hstep (listed := lk l.length pre.length) (by simp [lk]) ho (by rw [lk_get _ _ _ _ (by omega)]; simp)
      (fun e he hb => by have := hsp.1 e he hb; rw [lk_get _ _ _ _ (by omega)]; simpa using this) hI hS (K := wpList P l.toArray Q suf)
      (fun u w' hi' hs' => by
        rw [lk_set _ _ (by omega)] at hi'
        exact ih (pre ++ [o]) _ _ (by simp [hl]) (by simpa using hi') hs')
    show (if Region.wanted o (yielded l.toArray a.tmps) then o.wp P a w (wpList P l.toArray Q suf) Q ∨ (o.asks P a w ∧ LetsOut Q) else wpList P l.toArray Q suf (a.put o.dst undef) w)
    by_cases hw : Region.wanted o (yielded l.toArray a.tmps) = true
    · rw [if_pos hw] at h ⊢
      exact .inl h
    · rw [if_neg hw] at h ⊢
      exact h
def sets (A : Array Value) : List (Nat × Value) → Array Value
  | [] => A
  | (t, v) :: r => sets (A.setIfInBounds t v) r
theorem sets_size : ∀ (L : List (Nat × Value)) (A : Array Value), (sets A L).size = A.size
  | [], A => rfl
  | (t, v) :: r, A => by rw [sets, sets_size r, Array.size_setIfInBounds]
theorem sets_other : ∀ (L : List (Nat × Value)) (A : Array Value) (t : Nat), (∀ x ∈ L, x.1 ≠ t) → (sets A L).getD t undef = A.getD t undef
  | [], A, t, _ => rfl
  | (s, v) :: r, A, t, h => by
    rw [sets, sets_other r _ t (fun x hx => h x (List.mem_cons_of_mem _ hx)), getD_set, if_neg (fun e => h (s, v) List.mem_cons_self e.1)]
def keysOk (ops : Array Oper) (ks : List Nat) : Bool := ks.all fun t => ops.any fun o => o.dst == some t
theorem keys_T {ops : Array Oper} {A : Array Value} {L : List (Nat × Value)} (hk : keysOk ops (L.map (·.1)) = true) (t : Nat) (ht : ∀ (i : Nat) (o : Oper), ops[i]? = some o → o.dst ≠ some t) : (sets A L).getD t undef = A.getD t undef := by
  refine sets_other L _ t fun x hx e => ?_
  have := List.all_eq_true.1 hk x.1 (List.mem_map_of_mem hx)
  obtain ⟨o, ho, hb⟩ := (Array.any_iff_exists' this)
  obtain ⟨i, hi, rfl⟩ := Array.mem_iff_getElem.1 ho
  exact ht i _ (Array.getElem?_eq_getElem hi) (by rw [← e]; simpa using hb)
theorem wp_settled {P : Program} {id : Nat} {l : List Oper} {Q : Exit → Act → World → Prop} {a : Act} {w : World} (hm : P.follows .mixedOrders = true) (T : Array Value) (S : World → Prop) (L : List (Nat × Value))
    (hd : depsOk .any l.toArray = true) (hT : T = sets a.tmps L) (hk : keysOk l.toArray (L.map (·.1)) = true)
    (hS : S { w with drawn := w.drawn + 1 }) (hstep : AllOK P l.toArray T S l) (hQ : ∀ w', S w' → Q .normal { a with tmps := T } w') : (Code.region id l.toArray true).wp P Q a w := by
  refine wp_region_any hm (any_settled hd (by rw [hT, sets_size]) (fun t ht => by rw [hT]; exact keys_T hk t ht) hstep hQ _ _ _ _ (by simp) ?_ ?_ hS)
  · unfold unl
    exact Nat.le_trans (List.countP_le_length) (by simp)
  · refine ⟨rfl, rfl, fun i o d hi hdst hl => ?_, fun t _ => rfl⟩
    have hlt := (Array.getElem?_eq_some_iff.1 hi).1
    rw [Array.getD_eq_getD_getElem?, Array.getElem?_replicate, if_pos hlt] at hl
    cases hl
theorem wp_seq {P : Program} {id : Nat} {l : List Oper} {Q : Exit → Act → World → Prop} {a : Act} {w : World} (T : Array Value) (S : World → Prop) (L : List (Nat × Value))
    (hd : depsOk .any l.toArray = true) (hT : T = sets a.tmps L) (hk : keysOk l.toArray (L.map (·.1)) = true)
    (hS : S w) (hstep : AllOK P l.toArray T S l) (hQ : ∀ w', S w' → Q .normal { a with tmps := T } w') : (Code.region id l.toArray false).wp P Q a w := by
  refine wp_region_lit (seq_settled hd (by rw [hT, sets_size]) (fun t ht => by rw [hT]; exact keys_T hk t ht) hstep hQ l [] a w rfl ?_ hS)
  refine ⟨rfl, rfl, fun i o d hi hdst hl => ?_, fun t _ => rfl⟩
  have hlt := (Array.getElem?_eq_some_iff.1 hi).1
  rw [lk_get _ _ _ _ (by simpa using hlt)] at hl
  simp at hl
theorem wp_drawn {P : Program} {id : Nat} {l : List Oper} {Q : Exit → Act → World → Prop} {a : Act} {w : World} (hm : P.follows .mixedOrders = true) (L : List (Nat × Value)) (S : World → Prop)
    (hd : depsOk .any l.toArray = true) (hk : keysOk l.toArray (L.map (·.1)) = true)
    (hS : S { w with drawn := w.drawn + 1 }) (hstep : AllOK P l.toArray (sets a.tmps L) S l) (hQ : ∀ w', S w' → Q .normal { a with tmps := sets a.tmps L } w') : (Code.region id l.toArray true).wp P Q a w :=
  wp_settled hm (sets a.tmps L) S L hd rfl hk hS hstep hQ
theorem wp_text {P : Program} {id : Nat} {l : List Oper} {Q : Exit → Act → World → Prop} {a : Act} {w : World} (L : List (Nat × Value)) (S : World → Prop)
    (hd : depsOk .any l.toArray = true) (hk : keysOk l.toArray (L.map (·.1)) = true)
    (hS : S w) (hstep : AllOK P l.toArray (sets a.tmps L) S l) (hQ : ∀ w', S w' → Q .normal { a with tmps := sets a.tmps L } w') : (Code.region id l.toArray false).wp P Q a w :=
  wp_seq (sets a.tmps L) S L hd rfl hk hS hstep hQ
section
variable {P : Program} {ops : Array Oper} {T : Array Value} {S : World → Prop} {o : Oper}
theorem StepOK.pure (d : Nat) (hw : Region.wanted o (yielded ops T) = true) (hd : o.dst = some d) (hr : ∀ w, (execOp (Act.eval ⟨T, []⟩) o).run P w = .ok (.value (T.getD d undef)) w) : StepOK P ops T S o := by
  refine ⟨fun _ w hS => ?_, fun h => by rw [hw] at h; cases h⟩
  unfold Tells
  rw [hr w]
  exact ⟨fun e he => by rw [hd] at he; cases he; rfl, hS⟩
theorem StepOK.load (d : Nat) (v : Value) (hv : T.getD d undef = v) (hw : Region.wanted o (yielded ops T) = true) (hd : o.dst = some d) (hr : ∀ w, S w → (execOp (Act.eval ⟨T, []⟩) o).run P w = .ok (.value v) w) : StepOK P ops T S o := by
  refine ⟨fun _ w hS => ?_, fun h => by rw [hw] at h; cases h⟩
  unfold Tells
  rw [hr w hS]
  exact ⟨fun e he => by rw [hd] at he; cases he; exact hv, hS⟩
theorem StepOK.off (d : Nat) (hw : Region.wanted o (yielded ops T) = false) (hd : o.dst = some d) (hu : T.getD d undef = undef) : StepOK P ops T S o :=
  ⟨fun h => (by rw [hw] at h; cases h), fun _ e he => by rw [hd] at he; cases he; exact hu⟩
theorem StepOK.call (d f : Nat) (args : Array Value) (v : Value) (hv : T.getD d undef = v) (hw : Region.wanted o (yielded ops T) = true) (hd : o.dst = some d) (hr : ∀ w, (execOp (Act.eval ⟨T, []⟩) o).run P w = .ok (.enter f args) w)
    (hc : ∀ w, S w → Calls P f args w fun e w' => e = .returned v ∧ S w') : StepOK P ops T S o := by
  refine ⟨fun _ w hS => ?_, fun h => by rw [hw] at h; cases h⟩
  unfold Tells
  rw [hr w]
  refine (hc w hS).mono ?_
  rintro e w' ⟨rfl, h⟩
  exact ⟨_, rfl, fun e he => by rw [hd] at he; cases he; exact hv, h⟩
end
end Go.RS
namespace Go.Proofs.YtpmclnlgipphmaaDoor.B
open Go.RowKit Go.Proofs.YtpmclnlgipphmaaDoorW.PrintWords Go.Proofs.YtpmclnlgipphmaaDoorW.PrintMore Go.RF
set_option linter.unusedVariables false
set_option linter.unusedSimpArgs false
section
variable {P : Program} {w : World}
theorem loop_true {γ : Type} (f : Nat → γ → Sem (ForInStep γ)) (c : γ) : ∀ (l : List Nat), (∀ i ∈ l, (f i c).run P w = .ok (.yield c) w) → (forIn l c f).run P w = .ok c w
  | [], _ => by simp
  | i :: l, h => by
    rw [List.forIn_cons]
    simp only [Sem.run_bind, h i List.mem_cons_self, Result.andThen_ok]
    exact loop_true f c l fun j hj => h j (List.mem_cons_of_mem _ hj)
theorem eq_arr {d len : Nat} {t elem : TypeId} {n : Nat} {xs : Array Value} (hu : P.underlying t = some (.array len elem)) (hn : (sizeOf elem).run P w = .ok n w)
    (h : ∀ i, i < len → ∃ a, (part elem xs (i * n)).run P w = .ok a w ∧ (Op.equalIn d elem a a).run P w = .ok true w) : (Op.equalIn (d + 1) t (.agg xs) (.agg xs)).run P w = .ok true w := by
  unfold Op.equalIn
  simp only [Sem.run_bind, run_underlying hu, Result.andThen_ok, hn, Std.Legacy.Range.forIn_eq_forIn_range']
  rw [loop_true _ _ _ ?_]
  · simp
  · intro i hi
    obtain ⟨a, h1, h2⟩ := h i (by simpa using hi)
    simp [h1, h2]
end
theorem eq_byte (d : Nat) (n : Int) (w : World) : (Op.equalIn (d + 1) 5 (.int .u8 n) (.int .u8 n)).run Tryd.prog w = .ok true w := by
  unfold Op.equalIn
  simp [run_underlying Tryd.underlying5]
theorem eq_X {xs : Array Value} (hx : ∀ i, i < 256 → ∃ n, xs[i]? = some (.int .u8 n)) (w : World) : (binOp .neq 25 (.agg xs) (.agg xs)).run Tryd.prog w = .ok (.bool false) w := by
  have h16 : ∀ (d : Nat) (ys : Array Value), (∀ j, j < 16 → ∃ n, ys[j]? = some (.int .u8 n)) → (Op.equalIn (d + 2) 24 (.agg ys) (.agg ys)).run Tryd.prog w = .ok true w := by
    intro d ys hy
    refine eq_arr (len := 16) (elem := 5) (n := 1) (by kernel_rfl) (by kernel_rfl) fun j hj => ?_
    obtain ⟨n, hn⟩ := hy j hj
    refine ⟨.int .u8 n, ?_, eq_byte d n w⟩
    have ha : (isAgg 5).run Tryd.prog w = .ok false w := by kernel_rfl
    unfold part
    simp [Sem.run_bind, ha, hn]
  have h : (Op.equalIn 10000 25 (.agg xs) (.agg xs)).run Tryd.prog w = .ok true w := by
    refine eq_arr (d := 9999) (len := 16) (elem := 24) (n := 16) (by kernel_rfl) (by kernel_rfl) fun i hi => ?_
    refine ⟨.agg (xs.extract (i * 16) (i * 16 + 16)), ?_, h16 9997 _ fun j hj => ?_⟩
    · have ha : (isAgg 24).run Tryd.prog w = .ok true w := by kernel_rfl
      have hs : (sizeOf 24).run Tryd.prog w = .ok 16 w := by kernel_rfl
      unfold part
      simp [Sem.run_bind, ha, hs]
    · obtain ⟨n, hn⟩ := hx (i * 16 + j) (by omega)
      refine ⟨n, ?_⟩
      rw [Array.getElem?_extract, if_pos]
      · exact hn
      · have : i * 16 + j < xs.size := (Array.getElem?_eq_some_iff.1 hn).1
        omega
  simp only [binOp, Op.equal, Op.maxDepth, Sem.run_bind, h, Result.andThen_ok]
  rfl
theorem run_bin {P : Program} {o : Oper} {ρ : Operand → Value} {op : BinOp} {t yt : TypeId} {x y : Operand} {a b v : Value} {w : World} (ho : o.op = .binOp op t x y yt) (hx : ρ x = a) (hy : ρ y = b)
    (hg : (eqGuard op t x y a b).run P w = .ok () w) (h : (binOp op t a b).run P w = .ok v w) : (execOp ρ o).run P w = .ok (.value v) w := by
  unfold execOp
  simp only [ho, hx, hy, Sem.run_bind, hg, h, Result.andThen_ok, Sem.run_pure]
theorem neq_u64 (x : Int) (w : World) : (binOp .neq 22 (.int .u64 x) (.int .u64 x)).run Tryd.prog w = .ok (.bool false) w := by simp [binOp, Op.intCmp]
theorem eql_u64 (x : Int) (w : World) : (binOp .eql 22 (.int .u64 x) (.int .u64 x)).run Tryd.prog w = .ok (.bool true) w := by simp [binOp, Op.intCmp]
theorem neq_i64 (x : Int) (w : World) : (binOp .neq 3 (.int .i64 x) (.int .i64 x)).run Tryd.prog w = .ok (.bool false) w := by simp [binOp, Op.intCmp]
theorem neq_i64' {x y : Int} (h : x ≠ y) (w : World) : (binOp .neq 3 (.int .i64 x) (.int .i64 y)).run Tryd.prog w = .ok (.bool true) w := by simp [binOp, Op.intCmp, h]
theorem run_load {P : Program} {o : Oper} {ρ : Operand → Value} {t : TypeId} {x : Operand} {a v : Value} {w : World} (ho : o.op = .load t x) (hx : ρ x = a) (h : (Instr.loadAt t a).run P w = .ok v w) : (execOp ρ o).run P w = .ok (.value v) w := by
  unfold execOp
  simp only [ho, hx, Sem.run_bind, h, Result.andThen_ok, Sem.run_pure]
set_option maxRecDepth 100000 in
theorem load_row {W : World} {g : Nat} {cs : Array Value} (hsz : cs.size = 278) (hb : W.heap[g]? = some (.cells cs 29 (0, 0))) : (Instr.loadAt 29 (.pointer (some ⟨g, 0, none⟩))).run Tryd.prog W = .ok (.agg cs) W := by
  simp only [Instr.loadAt, Instr.sureAddr, Sem.run_bind, Sem.run_pure, Result.andThen_ok, run_loadVar_row W g 29 29 cs (0, 0) _ hb Tryd.underlying29 rfl (by rw [hsz]; exact size29)]
theorem cut_list {cs : Array Value} {a b : Nat} : (cs.extract a b).toList.toArray = cs.extract a b := Array.toArray_toList
theorem load_F {W : World} {g : Nat} {cs : Array Value} (hsz : cs.size = 278) (hb : W.heap[g]? = some (.cells cs 29 (0, 0))) : (Instr.loadAt 27 (.pointer (some ⟨g, 272, none⟩))).run Tryd.prog W = .ok (.agg (cs.extract 272 277)) W := by
  have h := run_loadAt_mid W g 272 27 (cs.extract 272 (272 + 5)).toList _ (World.rangeAt_of_block hb 272 5) Tryd.underlying27 rfl (by rw [Array.length_toList, Array.size_extract, hsz]; kernel_rfl)
  rw [cut_list] at h
  exact h
theorem under25 : Tryd.prog.underlying 25 = some (.array 16 24) := by kernel_rfl
theorem load_X {W : World} {g : Nat} {cs : Array Value} (hsz : cs.size = 278) (hb : W.heap[g]? = some (.cells cs 29 (0, 0))) : (Instr.loadAt 25 (.pointer (some ⟨g, 16, none⟩))).run Tryd.prog W = .ok (.agg (cs.extract 16 272)) W := by
  have h := run_loadAt_mid W g 16 25 (cs.extract 16 (16 + 256)).toList _ (World.rangeAt_of_block hb 16 256) under25 rfl (by rw [Array.length_toList, Array.size_extract, hsz]; kernel_rfl)
  rw [cut_list] at h
  exact h
theorem load_u64 {W : World} {g i : Nat} {cs : Array Value} {x : Int} (hb : W.heap[g]? = some (.cells cs 29 (0, 0))) (hx : cs[i]? = some (.int .u64 x)) : (Instr.loadAt 22 (.pointer (some ⟨g, i, none⟩))).run Tryd.prog W = .ok (.int .u64 x) W := by
  have q : W.cell? ⟨g, i, none⟩ = some (.int .u64 x) := by rw [bC_ hb]; exact hx
  have hu := Tryd.underlying22
  go_simp
theorem index_at (g i : Nat) (hi : i < 16) (W : World) : (Instr.indexAt 23 (.pointer (some ⟨g, 0, none⟩)) (.int .i64 (i : Int))).run Tryd.prog W = .ok (.pointer (some ⟨g, i, none⟩)) W := by
  have hu : Tryd.prog.underlying 23 = some (.array 16 22) := by kernel_rfl
  have h1 : (0 : Int) ≤ (i : Int) := by omega
  have h2 : (i : Int) < 16 := by omega
  go_simp
theorem wrap_nat (v : BitVec 64) : IntKind.u64.wrap (v.toNat : Int) = (v.toNat : Int) := by
  have := v.isLt
  rw [IntKind.wrap_u64]
  omega
theorem and_bv (a b : Int) : Go.bits .and .u64 a b = ((BitVec.ofInt 64 a &&& BitVec.ofInt 64 b).toNat : Int) := by unfold Go.bits; exact wrap_nat _
theorem or_bv (a b : Int) : Go.bits .or .u64 a b = ((BitVec.ofInt 64 a ||| BitVec.ofInt 64 b).toNat : Int) := by unfold Go.bits; exact wrap_nat _
theorem xor_bv (a b : Int) : Go.bits .xor .u64 a b = ((BitVec.ofInt 64 a ^^^ BitVec.ofInt 64 b).toNat : Int) := by unfold Go.bits; exact wrap_nat _
theorem andNot_bv (a b : Int) : Go.bits .andNot .u64 a b = ((BitVec.ofInt 64 a &&& ~~~ BitVec.ofInt 64 b).toNat : Int) := by unfold Go.bits; exact wrap_nat _
theorem bv_nat (v : BitVec 64) : BitVec.ofInt 64 (v.toNat : Int) = v := by
  rw [BitVec.ofInt_natCast]
  simp
theorem nat_bv (x : Int) (h0 : 0 ≤ x) (h1 : x < 18446744073709551616) : ((BitVec.ofInt 64 x).toNat : Int) = x := by
  rw [BitVec.toNat_ofInt]
  omega
theorem set_got (v m x : Int) : Go.bits .and .u64 (Go.bits .or .u64 (Go.bits .andNot .u64 v m) (Go.bits .and .u64 x m)) m = Go.bits .and .u64 x m := by
  simp only [and_bv, or_bv, andNot_bv, bv_nat]
  congr 2
  generalize BitVec.ofInt 64 v = V
  generalize BitVec.ofInt 64 m = M
  generalize BitVec.ofInt 64 x = X
  ext i hi
  simp only [BitVec.getElem_and, BitVec.getElem_or, BitVec.getElem_not]
  cases V[i] <;> cases M[i] <;> cases X[i] <;> rfl
theorem set_above (v m x : Int) : Go.bits .xor .u64 (Go.bits .or .u64 (Go.bits .andNot .u64 v m) (Go.bits .and .u64 x m)) (Go.bits .and .u64 x m) = Go.bits .andNot .u64 v m := by
  simp only [and_bv, or_bv, xor_bv, andNot_bv, bv_nat]
  congr 2
  generalize BitVec.ofInt 64 v = V
  generalize BitVec.ofInt 64 m = M
  generalize BitVec.ofInt 64 x = X
  ext i hi
  simp only [BitVec.getElem_and, BitVec.getElem_or, BitVec.getElem_not, BitVec.getElem_xor]
  cases V[i] <;> cases M[i] <;> cases X[i] <;> rfl
theorem set_back (v m x : Int) (h0 : 0 ≤ v) (h1 : v < 18446744073709551616) : Go.bits .or .u64 (Go.bits .andNot .u64 (Go.bits .or .u64 (Go.bits .andNot .u64 v m) (Go.bits .and .u64 x m)) m) (Go.bits .and .u64 v m) = v := by
  conv => rhs; rw [← nat_bv v h0 h1]
  simp only [and_bv, or_bv, andNot_bv, bv_nat]
  congr 2
  generalize BitVec.ofInt 64 v = V
  generalize BitVec.ofInt 64 m = M
  generalize BitVec.ofInt 64 x = X
  ext i hi
  simp only [BitVec.getElem_and, BitVec.getElem_or, BitVec.getElem_not]
  cases V[i] <;> cases M[i] <;> cases X[i] <;> rfl
theorem set_got0 (m x : Int) : Go.bits .and .u64 (Go.bits .or .u64 0 (Go.bits .and .u64 x m)) m = Go.bits .and .u64 x m := by
  simp only [and_bv, or_bv, bv_nat]
  congr 2
  generalize BitVec.ofInt 64 m = M
  generalize BitVec.ofInt 64 x = X
  ext i hi
  simp only [BitVec.getElem_and, BitVec.getElem_or, BitVec.ofInt_ofNat, BitVec.ofNat_eq_ofNat, BitVec.getElem_zero]
  cases M[i] <;> cases X[i] <;> rfl
theorem set_above0 (m x : Int) : Go.bits .xor .u64 (Go.bits .or .u64 0 (Go.bits .and .u64 x m)) (Go.bits .and .u64 x m) = 0 := by
  simp only [and_bv, or_bv, xor_bv, bv_nat]
  have : (BitVec.ofInt 64 0 ||| BitVec.ofInt 64 x &&& BitVec.ofInt 64 m) ^^^ (BitVec.ofInt 64 x &&& BitVec.ofInt 64 m) = 0#64 := by
    generalize BitVec.ofInt 64 m = M
    generalize BitVec.ofInt 64 x = X
    ext i hi
    simp only [BitVec.getElem_and, BitVec.getElem_or, BitVec.getElem_xor, BitVec.ofInt_ofNat, BitVec.ofNat_eq_ofNat, BitVec.getElem_zero]
    cases M[i] <;> cases X[i] <;> rfl
  rw [this]
  rfl
theorem and_all (x : Int) (h0 : 0 ≤ x) (h1 : x < 18446744073709551616) : Go.bits .and .u64 x 18446744073709551615 = x := by
  rw [and_bv]
  conv => rhs; rw [← nat_bv x h0 h1]
  congr 2
  generalize BitVec.ofInt 64 x = X
  have : BitVec.ofInt 64 18446744073709551615 = BitVec.allOnes 64 := by decide
  rw [this]
  exact BitVec.and_allOnes
theorem run_index {P : Program} {o : Oper} {ρ : Operand → Value} {t : TypeId} {x y : Operand} {a b v : Value} {w : World} (ho : o.op = .index t x y) (hx : ρ x = a) (hy : ρ y = b) (h : (Instr.index t a b).run P w = .ok v w) : (execOp ρ o).run P w = .ok (.value v) w := by
  unfold execOp
  simp only [ho, hx, hy, Sem.run_bind, h, Result.andThen_ok, Sem.run_pure]
theorem run_indexAddr {P : Program} {o : Oper} {ρ : Operand → Value} {t : TypeId} {x y : Operand} {a b v : Value} {w : World} (ho : o.op = .indexAddr t x y) (hx : ρ x = a) (hy : ρ y = b) (h : (Instr.indexAt t a b).run P w = .ok v w) : (execOp ρ o).run P w = .ok (.value v) w := by
  unfold execOp
  simp only [ho, hx, hy, Sem.run_bind, h, Result.andThen_ok, Sem.run_pure]
theorem index_R {es : Array Value} {i : Nat} {v : Value} (hi : i < 16) (hv : es[i]? = some v) (W : World) : (Instr.index 23 (.agg (es.extract 0 16)) (.int .i64 (i : Int))).run Tryd.prog W = .ok v W := by
  have hu : Tryd.prog.underlying 23 = some (.array 16 22) := by kernel_rfl
  have h1 : (0 : Int) ≤ (i : Int) := by omega
  have h2 : (i : Int) < 16 := by omega
  have hv' : (es.extract 0 16)[i]? = some v := by
    have hlt := (Array.getElem?_eq_some_iff.1 hv).1
    rw [Array.getElem?_extract, if_pos (by omega)]
    simpa using hv
  have hp : (part 22 (es.extract 0 16) i).run Tryd.prog W = .ok v W := by
    have ha : (isAgg 22).run Tryd.prog W = .ok false W := by kernel_rfl
    unfold part
    simp [Sem.run_bind, ha, hv']
  have hs : (sizeOf 22).run Tryd.prog W = .ok 1 W := by kernel_rfl
  simp [Instr.index, run_underlying hu, asIntOf, go_sem, h1, h2, hs]
  rw [if_pos hi, hv']
  rfl
def BkS (w0 : World) (g0 g1 : Nat) (cs ds : Array Value) (V : World) : Prop := V.heap[g0]? = some (.cells cs 29 (0, 0)) ∧ V.heap[g1]? = some (.cells ds 29 (0, 0)) ∧ Tab V ∧ Below w0.heap.size w0 V
theorem BkS.below {w0 V W : World} {g0 g1 : Nat} {cs ds : Array Value} (h : BkS w0 g0 g1 cs ds V) (hb : Below V.heap.size V W) : BkS w0 g0 g1 cs ds W := ⟨blk_below h.1 hb, blk_below h.2.1 hb, h.2.2.1.below hb, below_step h.2.2.2 hb⟩
theorem BkS.met {w0 V : World} {g0 g1 : Nat} {cs ds : Array Value} {f : Nat} {args : Array Value} {v : Value} (h : BkS w0 g0 g1 cs ds V) (hc : Calls Tryd.prog f args V fun e w' => e = .returned v ∧ Below V.heap.size V w') : Calls Tryd.prog f args V fun e w' => e = .returned v ∧ BkS w0 g0 g1 cs ds w' :=
  hc.mono fun e w' k => ⟨k.1, h.below k.2⟩
end Go.Proofs.YtpmclnlgipphmaaDoor.B
