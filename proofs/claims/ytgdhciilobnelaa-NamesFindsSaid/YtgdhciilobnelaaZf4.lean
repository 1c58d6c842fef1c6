/- A region that draws its order, all of whose operations tell settled values: whatever order comes, the frame behind is the same. -/
import Derived.Orders
import Derived.Tactics
namespace Go.RS
set_option linter.unusedVariables false
def Tells (P : Program) (o : Oper) (ρ : Operand → Value) (w : World) (R : Value → World → Prop) : Prop :=
  match (execOp ρ o).run P w with
  | .ok (.value v) w' => R v w'
  | .ok .skip w' => R undef w'
  | .ok (.enter f args) w' => Calls P f args w' fun e w2 => ∃ v, e = .returned v ∧ R v w2
  | _ => False
theorem Tells.wp {P : Program} {o : Oper} {a : Act} {w : World} {R : Value → World → Prop} {K : Act → World → Prop} {Q : Exit → Act → World → Prop}
    (h : Tells P o a.eval w R) (hK : ∀ v w', R v w' → K (a.put o.dst v) w') : o.wp P a w K Q := by
  unfold Oper.wp
  unfold Tells at h
  generalize (execOp a.eval o).run P w = r at h ⊢
  cases r with
  | ok x w' =>
    cases x with
    | value v => exact hK _ _ h
    | skip => exact hK _ _ h
    | enter f args => exact Calls.mono h fun e w2 he => by obtain ⟨v, rfl, hr⟩ := he; exact hK _ _ hr
    | _ => exact h.elim
  | halt x w' => exact h.elim
theorem Array.any_iff_exists' {α : Type} {p : α → Bool} {A : Array α} (h : A.any p = true) : ∃ x, x ∈ A ∧ p x = true := by
  rw [Array.any_eq_true] at h
  obtain ⟨i, hi, hp⟩ := h
  exact ⟨A[i], Array.getElem_mem hi, hp⟩
def depsOk (md : Region.Mode) (ops : Array Oper) : Bool :=
  (List.range ops.size).all fun i =>
    match ops[i]? with
    | none => true
    | some o =>
      o.after.all (fun e => !Region.binds md e || decide (e.on < i)) &&
      (o.looksAt ops).all (fun t => (List.range ops.size).all fun j =>
        match ops[j]? with
        | none => true
        | some p => p.dst != some t || o.after.any (fun e => Region.binds md e && e.on == j)) &&
      (match o.dst with
       | none => true
       | some d => (List.range ops.size).all fun j => j == i || (match ops[j]? with | none => true | some p => p.dst != some d)) &&
      (match o.op with | .select _ _ => false | _ => true)
theorem deps_spec {md : Region.Mode} {ops : Array Oper} (h : depsOk md ops = true) {i : Nat} {o : Oper} (hi : ops[i]? = some o) :
    (∀ e ∈ o.after, Region.binds md e = true → e.on < i) ∧
    (∀ t ∈ o.looksAt ops, ∀ j p, ops[j]? = some p → p.dst = some t → ∃ e ∈ o.after, Region.binds md e = true ∧ e.on = j) ∧
    (∀ d, o.dst = some d → ∀ j p, ops[j]? = some p → p.dst = some d → j = i) ∧ (∀ cs b, o.op ≠ .select cs b) := by
  have hlt : ∀ {j : Nat} {p : Oper}, ops[j]? = some p → j < ops.size := fun hj => (Array.getElem?_eq_some_iff.1 hj).1
  unfold depsOk at h
  have h1 := List.all_eq_true.1 h i (List.mem_range.2 (hlt hi))
  simp only [hi, Bool.and_eq_true] at h1
  obtain ⟨⟨⟨a1, a2⟩, a3⟩, a4⟩ := h1
  refine ⟨fun e he hb => ?_, fun t ht j p hj hd => ?_, fun d hd j p hj hp => ?_, fun cs b e => ?_⟩
  · have := Array.all_eq_true_iff_forall_mem.1 a1 e he
    simpa [hb] using this
  · have := List.all_eq_true.1 (List.all_eq_true.1 a2 t ht) j (List.mem_range.2 (hlt hj))
    simp only [hj, hd, bne_self_eq_false, Bool.false_or] at this
    obtain ⟨e, he, hb⟩ := (Array.any_iff_exists' this)
    simp only [Bool.and_eq_true, beq_iff_eq] at hb
    exact ⟨e, he, hb.1, hb.2⟩
  · simp only [hd] at a3
    have := List.all_eq_true.1 a3 j (List.mem_range.2 (hlt hj))
    simpa [hj, hp] using this
  · rw [e] at a4
    cases a4
def Inv (ops : Array Oper) (T : Array Value) (a0 : Act) (listed : Array Bool) (a : Act) : Prop :=
  a.defers = a0.defers ∧ a.tmps.size = a0.tmps.size ∧
  (∀ i o d, ops[i]? = some o → o.dst = some d → listed.getD i true = true → a.tmps.getD d undef = T.getD d undef) ∧
  (∀ t, (∀ i o, ops[i]? = some o → o.dst = some t → listed.getD i true = false) → a.tmps.getD t undef = a0.tmps.getD t undef)
def StepOK (P : Program) (ops : Array Oper) (T : Array Value) (S : World → Prop) (o : Oper) : Prop :=
  (Region.wanted o (yielded ops T) = true → ∀ w, S w → Tells P o (Act.eval ⟨T, []⟩) w fun u w' => (∀ d, o.dst = some d → T.getD d undef = u) ∧ S w') ∧
  (Region.wanted o (yielded ops T) = false → ∀ d, o.dst = some d → T.getD d undef = undef)
def AllOK (P : Program) (ops : Array Oper) (T : Array Value) (S : World → Prop) : List Oper → Prop
  | [] => True
  | o :: r => StepOK P ops T S o ∧ AllOK P ops T S r
theorem AllOK.mem {P : Program} {ops : Array Oper} {T : Array Value} {S : World → Prop} : ∀ {l : List Oper}, AllOK P ops T S l → ∀ o ∈ l, StepOK P ops T S o
  | [], _, o, ho => by cases ho
  | p :: r, h, o, ho => by
    rcases List.mem_cons.1 ho with rfl | ho
    · exact h.1
    · exact AllOK.mem h.2 o ho
def unl (ops : Array Oper) (listed : Array Bool) : Nat := (List.range ops.size).countP fun i => !listed.getD i true
theorem getD_set {A : Array Value} {d t : Nat} {v : Value} : (A.setIfInBounds d v).getD t undef = if d = t ∧ d < A.size then v else A.getD t undef := by
  simp only [Array.getD_eq_getD_getElem?, Array.getElem?_setIfInBounds]
  by_cases e : d = t
  · subst e
    by_cases h : d < A.size
    · simp [h]
    · simp [h]
  · simp [e]
theorem listed_set {A : Array Bool} {i j : Nat} (hi : A.getD i true = false) : (A.setIfInBounds i true).getD j true = (if i = j then true else A.getD j true) := by
  simp only [Array.getD_eq_getD_getElem?, Array.getElem?_setIfInBounds] at hi ⊢
  by_cases e : i = j
  · subst e
    by_cases h : i < A.size
    · simp [h]
    · simp [h]
  · simp [e]
theorem unl_set {ops : Array Oper} {listed : Array Bool} {i : Nat} (hi : i < ops.size) (hl : listed.getD i true = false) : unl ops (listed.setIfInBounds i true) < unl ops listed := by
  unfold unl
  have hmem : i ∈ List.range ops.size := List.mem_range.2 hi
  generalize List.range ops.size = l at hmem
  have hle : ∀ l : List Nat, l.countP (fun j => !(listed.setIfInBounds i true).getD j true) ≤ l.countP (fun j => !listed.getD j true) := fun l =>
    List.countP_mono_left fun j _ h => by
      rw [listed_set hl] at h
      split at h
      · cases h
      · exact h
  induction l with
  | nil => cases hmem
  | cons j r ih =>
    by_cases e : j = i
    · subst e
      have := hle r
      simp only [List.countP_cons, listed_set hl, if_true, hl, Bool.not_true, Bool.not_false, Bool.false_eq_true, if_false]
      simp only [listed_set hl] at this
      omega
    · have := ih ((List.mem_cons.1 hmem).resolve_left (fun h => e h.symm))
      have e2 : ((!(listed.setIfInBounds i true).getD j true) = true) = ((!listed.getD j true) = true) := by rw [listed_set hl, if_neg (fun h => e h.symm)]
      simp only [List.countP_cons, e2] at this ⊢
      omega
theorem ready_spec {md : Region.Mode} {ops : Array Oper} {listed : Array Bool} {i : Nat} (h : i ∈ Region.ready md ops listed) :
    i < ops.size ∧ listed.getD i true = false ∧ ∃ o, ops[i]? = some o ∧ ∀ e ∈ o.after, Region.binds md e = true → listed.getD e.on false = true := by
  unfold Region.ready at h
  obtain ⟨h1, h2⟩ := List.mem_filter.1 h
  have hlt := List.mem_range.1 h1
  simp only [Bool.and_eq_true, Bool.not_eq_true'] at h2
  refine ⟨hlt, h2.1, ops[i], Array.getElem?_eq_getElem hlt, fun e he hb => ?_⟩
  have h3 := h2.2
  rw [Array.getElem?_eq_getElem hlt] at h3
  simp only [Option.map_some, Option.getD_some] at h3
  have := Array.all_eq_true_iff_forall_mem.1 h3 e he
  simpa [hb] using this
theorem all_listed {md : Region.Mode} {ops : Array Oper} {listed : Array Bool} (hd : depsOk md ops = true) (hsz : listed.size = ops.size) (h : Region.ready md ops listed = []) : ∀ i, i < ops.size → listed.getD i true = true := by
  intro i
  induction i using Nat.strongRecOn with
  | ind i ih =>
    intro hi
    cases hl : listed.getD i true with
    | true => rfl
    | false =>
      have ho := Array.getElem?_eq_getElem hi
      have hsp := deps_spec hd ho
      have : i ∈ Region.ready md ops listed := by
        unfold Region.ready
        refine List.mem_filter.2 ⟨List.mem_range.2 hi, ?_⟩
        rw [hl, ho]
        simp only [Bool.not_false, Bool.true_and, Option.map_some, Option.getD_some]
        refine Array.all_eq_true_iff_forall_mem.2 fun e he => ?_
        cases hb : Region.binds md e with
        | false => rfl
        | true =>
          have hlt := hsp.1 e he hb
          have := ih e.on hlt (by omega)
          simp only [Bool.not_true, Bool.false_or]
          rw [Array.getD_eq_getD_getElem?] at this ⊢
          rw [Array.getElem?_eq_getElem (by omega)] at this ⊢
          simpa using this
      rw [h] at this
      cases this
theorem looks_tmp {ops : Array Oper} {o : Oper} {t : Tmp} (h : Operand.tmp t ∈ o.op.operands) : t ∈ o.looksAt ops := List.mem_append_left _ (List.mem_filterMap.2 ⟨.tmp t, by simpa using h, rfl⟩)
theorem looks_guard {ops : Array Oper} {o : Oper} {g : Nat} {b : Bool} {t : Tmp} (h : o.guard = some (g, b)) (ht : (ops[g]?).bind (·.dst) = some t) : t ∈ o.looksAt ops := by
  refine List.mem_append_right _ ?_
  rw [h]
  simp [ht]
theorem step_core {P : Program} {md : Region.Mode} {ops : Array Oper} {Q : Exit → Act → World → Prop} {T : Array Value} {S : World → Prop} {a0 : Act}
    (hd : depsOk md ops = true) (hsz : T.size = a0.tmps.size) (hT : ∀ t, (∀ (i : Nat) (o : Oper), ops[i]? = some o → o.dst ≠ some t) → T.getD t undef = a0.tmps.getD t undef)
    {listed : Array Bool} (hls : listed.size = ops.size) {i : Nat} {o : Oper} (ho : ops[i]? = some o) (hun : listed.getD i true = false)
    (hdep : ∀ e ∈ o.after, Region.binds md e = true → listed.getD e.on false = true) {a : Act} {w : World} (hI : Inv ops T a0 listed a) (s1 : Region.wanted o (yielded ops T) = true → Tells P o (Act.eval ⟨T, []⟩) w fun u w' => (∀ d, o.dst = some d → T.getD d undef = u) ∧ S w')
    (s2 : Region.wanted o (yielded ops T) = false → (∀ d, o.dst = some d → T.getD d undef = undef) ∧ S w) {K : Act → World → Prop}
    (hK : ∀ u w', Inv ops T a0 (listed.setIfInBounds i true) (a.put o.dst u) → S w' → K (a.put o.dst u) w') :
    if Region.wanted o (yielded ops a.tmps) then o.wp P a w K Q else K (a.put o.dst undef) w := by
  have hlt := (Array.getElem?_eq_some_iff.1 ho).1
  obtain ⟨d1, d2, d3, d4⟩ := deps_spec hd ho
  have hI' := hI
  obtain ⟨h1, h2, h3, h4⟩ := hI'
  have hsame : ∀ t ∈ o.looksAt ops, a.tmps.getD t undef = T.getD t undef := by
    intro t ht
    by_cases hw : ∃ (j : Nat) (p : Oper), ops[j]? = some p ∧ p.dst = some t
    · obtain ⟨j, p, hj, hp⟩ := hw
      obtain ⟨e, he, hb, rfl⟩ := d2 t ht j p hj hp
      refine h3 e.on p t hj hp ?_
      have := hdep e he hb
      rw [Array.getD_eq_getD_getElem?] at this ⊢
      rw [Array.getElem?_eq_getElem (by have := d1 e he hb; omega)] at this ⊢
      simpa using this
    · rw [hT t (fun j p hj hp => hw ⟨j, p, hj, hp⟩)]
      exact h4 t (fun j p hj hp => absurd ⟨j, p, hj, hp⟩ hw)
  have hev : ∀ x ∈ o.op.operands, a.eval x = Act.eval ⟨T, []⟩ x := by
    intro x hx
    cases x with
    | tmp t => exact hsame t (looks_tmp hx)
    | _ => rfl
  have hwant : Region.wanted o (yielded ops a.tmps) = Region.wanted o (yielded ops T) := by
    unfold Region.wanted
    rcases hg : o.guard with _ | ⟨g, b⟩
    · rfl
    · simp only []
      have : yielded ops a.tmps g = yielded ops T g := by
        unfold yielded
        rcases ht : (ops[g]?).bind (·.dst) with _ | t
        · rfl
        · simp only [Option.bind_some]
          have hs := hsame t (looks_guard hg ht)
          rw [Array.getD_eq_getD_getElem?, Array.getD_eq_getD_getElem?] at hs
          by_cases hlt : t < T.size
          · have hlt' : t < a.tmps.size := by rw [h2, ← hsz]; exact hlt
            have e1 : a.tmps[t]? = some a.tmps[t] := Array.getElem?_eq_getElem hlt'
            have e2 : T[t]? = some T[t] := Array.getElem?_eq_getElem hlt
            rw [e1, e2] at hs ⊢
            simp only [Option.getD_some] at hs
            rw [hs]
          · have e1 : a.tmps[t]? = none := Array.getElem?_eq_none (by rw [h2, ← hsz]; exact Nat.le_of_not_lt hlt)
            have e2 : T[t]? = none := Array.getElem?_eq_none (Nat.le_of_not_lt hlt)
            rw [e1, e2]
      rw [this]
  have hex : execOp a.eval o = execOp (Act.eval ⟨T, []⟩) o := execOp_congr o d4 hev
  have hput : ∀ u w', (∀ d, o.dst = some d → T.getD d undef = u) → S w' → K (a.put o.dst u) w' := by
    intro u w' hu' hS'
    refine hK u w' ?_ hS'
    rcases hdst : o.dst with _ | d
    · refine ⟨h1, h2, fun j p t hj hp hl => ?_, fun t ht => h4 t fun j p hj hp => ?_⟩
      · rw [listed_set hun] at hl
        by_cases e : i = j
        · subst e
          rw [ho] at hj
          cases hj
          rw [hdst] at hp
          cases hp
        · rw [if_neg e] at hl
          exact h3 j p t hj hp hl
      · have := ht j p hj hp
        rw [listed_set hun] at this
        by_cases e : i = j
        · rw [if_pos e] at this; cases this
        · rwa [if_neg e] at this
    · have hv := hu' d hdst
      refine ⟨h1, by simp [Act.put, h2], fun j p t hj hp hl => ?_, fun t ht => ?_⟩
      · simp only [Act.put]
        rw [getD_set]
        rw [listed_set hun] at hl
        by_cases e : i = j
        · subst e
          rw [ho] at hj
          cases hj
          rw [hdst] at hp
          cases hp
          by_cases hlt2 : d < a.tmps.size
          · rw [if_pos ⟨rfl, hlt2⟩, hv]
          · rw [if_neg (fun h => hlt2 h.2)]
            have hge : a.tmps.size ≤ d := Nat.le_of_not_lt (fun h => hlt2 h)
            have e1 : a.tmps[d]? = none := Array.getElem?_eq_none hge
            have e2 : T[d]? = none := Array.getElem?_eq_none (by rw [hsz, ← h2]; exact hge)
            rw [Array.getD_eq_getD_getElem?, Array.getD_eq_getD_getElem?, e1, e2]
        · rw [if_neg e] at hl
          have hne : ¬ (d = t ∧ d < a.tmps.size) := fun h => e (d3 d hdst j p hj (by rw [hp, h.1])).symm
          rw [if_neg hne]
          exact h3 j p t hj hp hl
      · simp only [Act.put]
        rw [getD_set]
        have hne : ¬ (d = t ∧ d < a.tmps.size) := fun h => by
          have := ht i o ho (by rw [hdst, h.1])
          rw [listed_set hun, if_pos rfl] at this
          cases this
        rw [if_neg hne]
        refine h4 t fun j p hj hp => ?_
        have := ht j p hj hp
        rw [listed_set hun] at this
        by_cases e : i = j
        · rw [if_pos e] at this; cases this
        · rwa [if_neg e] at this
  by_cases hw : Region.wanted o (yielded ops a.tmps) = true
  · rw [if_pos hw]
    refine Tells.wp (R := fun u w' => (∀ d, o.dst = some d → T.getD d undef = u) ∧ S w') ?_ fun u w' hr => hput u w' hr.1 hr.2
    unfold Tells
    rw [hex]
    exact s1 (by rw [← hwant]; exact hw)
  · rw [if_neg hw]
    have h := s2 (by rw [← hwant]; simpa using hw)
    exact hput undef w h.1 h.2
theorem core_looks {md : Region.Mode} {ops : Array Oper} {T : Array Value} {a0 : Act}
    (hd : depsOk md ops = true) (hsz : T.size = a0.tmps.size) (hT : ∀ t, (∀ (i : Nat) (o : Oper), ops[i]? = some o → o.dst ≠ some t) → T.getD t undef = a0.tmps.getD t undef)
    {listed : Array Bool} (hls : listed.size = ops.size) {i : Nat} {o : Oper} (ho : ops[i]? = some o)
    (hdep : ∀ e ∈ o.after, Region.binds md e = true → listed.getD e.on false = true) {a : Act} (hI : Inv ops T a0 listed a) :
    Region.wanted o (yielded ops a.tmps) = Region.wanted o (yielded ops T) ∧ execOp a.eval o = execOp (Act.eval ⟨T, []⟩) o := by
  have hlt := (Array.getElem?_eq_some_iff.1 ho).1
  obtain ⟨d1, d2, d3, d4⟩ := deps_spec hd ho
  obtain ⟨h1, h2, h3, h4⟩ := hI
  have hsame : ∀ t ∈ o.looksAt ops, a.tmps.getD t undef = T.getD t undef := by
    intro t ht
    by_cases hw : ∃ (j : Nat) (p : Oper), ops[j]? = some p ∧ p.dst = some t
    · obtain ⟨j, p, hj, hp⟩ := hw
      obtain ⟨e, he, hb, rfl⟩ := d2 t ht j p hj hp
      refine h3 e.on p t hj hp ?_
      have := hdep e he hb
      rw [Array.getD_eq_getD_getElem?] at this ⊢
      rw [Array.getElem?_eq_getElem (by have := d1 e he hb; omega)] at this ⊢
      simpa using this
    · rw [hT t (fun j p hj hp => hw ⟨j, p, hj, hp⟩)]
      exact h4 t (fun j p hj hp => absurd ⟨j, p, hj, hp⟩ hw)
  have hev : ∀ x ∈ o.op.operands, a.eval x = Act.eval ⟨T, []⟩ x := by
    intro x hx
    cases x with
    | tmp t => exact hsame t (looks_tmp hx)
    | _ => rfl
  have hwant : Region.wanted o (yielded ops a.tmps) = Region.wanted o (yielded ops T) := by
    unfold Region.wanted
    rcases hg : o.guard with _ | ⟨g, b⟩
    · rfl
    · simp only []
      have : yielded ops a.tmps g = yielded ops T g := by
        unfold yielded
        rcases ht : (ops[g]?).bind (·.dst) with _ | t
        · rfl
        · simp only [Option.bind_some]
          have hs := hsame t (looks_guard hg ht)
          rw [Array.getD_eq_getD_getElem?, Array.getD_eq_getD_getElem?] at hs
          by_cases hlt : t < T.size
          · have hlt' : t < a.tmps.size := by rw [h2, ← hsz]; exact hlt
            have e1 : a.tmps[t]? = some a.tmps[t] := Array.getElem?_eq_getElem hlt'
            have e2 : T[t]? = some T[t] := Array.getElem?_eq_getElem hlt
            rw [e1, e2] at hs ⊢
            simp only [Option.getD_some] at hs
            rw [hs]
          · have e1 : a.tmps[t]? = none := Array.getElem?_eq_none (by rw [h2, ← hsz]; exact Nat.le_of_not_lt hlt)
            have e2 : T[t]? = none := Array.getElem?_eq_none (Nat.le_of_not_lt hlt)
            rw [e1, e2]
      rw [this]
  have hex : execOp a.eval o = execOp (Act.eval ⟨T, []⟩) o := execOp_congr o d4 hev
  exact ⟨hwant, hex⟩
theorem core_put {md : Region.Mode} {ops : Array Oper} {T : Array Value} {a0 : Act}
    (hd : depsOk md ops = true) (hsz : T.size = a0.tmps.size)
    {listed : Array Bool} {i : Nat} {o : Oper} (ho : ops[i]? = some o) (hun : listed.getD i true = false) {a : Act} (hI : Inv ops T a0 listed a) (u : Value) (hu' : ∀ d, o.dst = some d → T.getD d undef = u) :
    Inv ops T a0 (listed.setIfInBounds i true) (a.put o.dst u) := by
  obtain ⟨d1, d2, d3, d4⟩ := deps_spec hd ho
  obtain ⟨h1, h2, h3, h4⟩ := hI
  rcases hdst : o.dst with _ | d
  · refine ⟨h1, h2, fun j p t hj hp hl => ?_, fun t ht => h4 t fun j p hj hp => ?_⟩
    · rw [listed_set hun] at hl
      by_cases e : i = j
      · subst e
        rw [ho] at hj
        cases hj
        rw [hdst] at hp
        cases hp
      · rw [if_neg e] at hl
        exact h3 j p t hj hp hl
    · have := ht j p hj hp
      rw [listed_set hun] at this
      by_cases e : i = j
      · rw [if_pos e] at this; cases this
      · rwa [if_neg e] at this
  · have hv := hu' d hdst
    refine ⟨h1, by simp [Act.put, h2], fun j p t hj hp hl => ?_, fun t ht => ?_⟩
    · simp only [Act.put]
      rw [getD_set]
      rw [listed_set hun] at hl
      by_cases e : i = j
      · subst e
        rw [ho] at hj
        cases hj
        rw [hdst] at hp
        cases hp
        by_cases hlt2 : d < a.tmps.size
        · rw [if_pos ⟨rfl, hlt2⟩, hv]
        · rw [if_neg (fun h => hlt2 h.2)]
          have hge : a.tmps.size ≤ d := Nat.le_of_not_lt (fun h => hlt2 h)
          have e1 : a.tmps[d]? = none := Array.getElem?_eq_none hge
          have e2 : T[d]? = none := Array.getElem?_eq_none (by rw [hsz, ← h2]; exact hge)
          rw [Array.getD_eq_getD_getElem?, Array.getD_eq_getD_getElem?, e1, e2]
      · rw [if_neg e] at hl
        have hne : ¬ (d = t ∧ d < a.tmps.size) := fun h => e (d3 d hdst j p hj (by rw [hp, h.1])).symm
        rw [if_neg hne]
        exact h3 j p t hj hp hl
    · simp only [Act.put]
      rw [getD_set]
      have hne : ¬ (d = t ∧ d < a.tmps.size) := fun h => by
        have := ht i o ho (by rw [hdst, h.1])
        rw [listed_set hun, if_pos rfl] at this
        cases this
      rw [if_neg hne]
      refine h4 t fun j p hj hp => ?_
      have := ht j p hj hp
      rw [listed_set hun] at this
      by_cases e : i = j
      · rw [if_pos e] at this; cases this
      · rwa [if_neg e] at this
theorem step_inv {P : Program} {md : Region.Mode} {ops : Array Oper} {Q : Exit → Act → World → Prop} {T : Array Value} {S : World → Prop} {a0 : Act}
    (hd : depsOk md ops = true) (hsz : T.size = a0.tmps.size) (hT : ∀ t, (∀ (i : Nat) (o : Oper), ops[i]? = some o → o.dst ≠ some t) → T.getD t undef = a0.tmps.getD t undef)
    {listed : Array Bool} (hls : listed.size = ops.size) {i : Nat} {o : Oper} (ho : ops[i]? = some o) (hstep : StepOK P ops T S o) (hun : listed.getD i true = false)
    (hdep : ∀ e ∈ o.after, Region.binds md e = true → listed.getD e.on false = true) {a : Act} {w : World} (hI : Inv ops T a0 listed a) (hS : S w) {K : Act → World → Prop}
    (hK : ∀ u w', Inv ops T a0 (listed.setIfInBounds i true) (a.put o.dst u) → S w' → K (a.put o.dst u) w') :
    if Region.wanted o (yielded ops a.tmps) then o.wp P a w K Q else K (a.put o.dst undef) w :=
  step_core hd hsz hT hls ho hun hdep hI (fun h => hstep.1 h w hS) (fun h => ⟨hstep.2 h, hS⟩) hK
theorem inv_end {ops : Array Oper} {T : Array Value} {a0 : Act} (hsz : T.size = a0.tmps.size) (hT : ∀ t, (∀ (i : Nat) (o : Oper), ops[i]? = some o → o.dst ≠ some t) → T.getD t undef = a0.tmps.getD t undef)
    {listed : Array Bool} {a : Act} (hI : Inv ops T a0 listed a) (hall : ∀ i, i < ops.size → listed.getD i true = true) : a = { a0 with tmps := T } := by
  obtain ⟨h1, h2, h3, h4⟩ := hI
  have ha : a = { a0 with tmps := T } := by
    have ht : a.tmps = T := by
      refine Array.ext (by omega) fun t ht1 ht2 => ?_
      have : a.tmps.getD t undef = T.getD t undef := by
        by_cases hw : ∃ (i : Nat) (o : Oper), ops[i]? = some o ∧ o.dst = some t
        · obtain ⟨i, o, hi, hdst⟩ := hw
          exact h3 i o t hi hdst (hall i (Array.getElem?_eq_some_iff.1 hi).1)
        · rw [hT t (fun i o hi hdst => hw ⟨i, o, hi, hdst⟩)]
          exact h4 t (fun i o hi hdst => absurd ⟨i, o, hi, hdst⟩ hw)
      rw [Array.getD_eq_getD_getElem?, Array.getD_eq_getD_getElem?, Array.getElem?_eq_getElem ht1, Array.getElem?_eq_getElem ht2] at this
      simpa using this
    cases a
    simp only at h1 ht
    subst h1 ht
    rfl
  exact ha
theorem any_settled {P : Program} {md : Region.Mode} {ops : Array Oper} {Q : Exit → Act → World → Prop} {T : Array Value} {S : World → Prop} {a0 : Act}
    (hd : depsOk md ops = true) (hsz : T.size = a0.tmps.size) (hT : ∀ t, (∀ (i : Nat) (o : Oper), ops[i]? = some o → o.dst ≠ some t) → T.getD t undef = a0.tmps.getD t undef)
    (hstep : AllOK P ops T S ops.toList) (hQ : ∀ w, S w → Q .normal { a0 with tmps := T } w) :
    ∀ (fuel : Nat) (listed : Array Bool) (a : Act) (w : World), listed.size = ops.size → unl ops listed ≤ fuel → Inv ops T a0 listed a → S w → wpAny P md ops Q fuel listed a w := by
  have hend : ∀ (listed : Array Bool) (a : Act) (w : World), listed.size = ops.size → Inv ops T a0 listed a → S w → Region.ready md ops listed = [] → Q .normal a w := by
    intro listed a w hls hI hS hr
    rw [inv_end hsz hT hI (all_listed hd hls hr)]
    exact hQ w hS
  intro fuel
  induction fuel with
  | zero =>
    intro listed a w hls hu hI hS
    have hr : Region.ready md ops listed = [] := by
      rcases hr : Region.ready md ops listed with _ | ⟨i, r⟩
      · rfl
      · have hi : i ∈ Region.ready md ops listed := by rw [hr]; exact List.mem_cons_self
        obtain ⟨h1, h2, -⟩ := ready_spec hi
        have := unl_set h1 h2
        omega
    exact ⟨hr, hend listed a w hls hI hS hr⟩
  | succ fuel ih =>
    intro listed a w hls hu hI hS
    refine ⟨hend listed a w hls hI hS, fun i hi => ?_⟩
    obtain ⟨hlt, hun, o, ho, hdep⟩ := ready_spec hi
    have h := step_inv (Q := Q) hd hsz hT hls ho (hstep.mem o (by rw [Array.mem_toList_iff]; exact Array.mem_of_getElem? ho)) hun hdep hI hS (K := wpAny P md ops Q fuel (listed.setIfInBounds i true))
      (fun u w' hi' hs' => ih _ _ _ (by simpa using hls) (by have := unl_set hlt hun; omega) hi' hs')
    unfold wpOp
    simp only [ho]
    by_cases hw : Region.wanted o (yielded ops a.tmps) = true
    · rw [if_pos hw] at h ⊢
      exact .inl h
    · rw [if_neg hw] at h ⊢
      exact h
def lk (n k : Nat) : Array Bool := (Array.range n).map fun i => decide (i < k)
theorem lk_get (n k i : Nat) (b : Bool) (h : i < n) : (lk n k).getD i b = decide (i < k) := by
  unfold lk
  rw [Array.getD_eq_getD_getElem?, Array.getElem?_map, Array.getElem?_range]
  simp [h]
theorem lk_set (n k : Nat) (h : k < n) : (lk n k).setIfInBounds k true = lk n (k + 1) := by
  apply Array.ext
  · simp [lk]
  · intro j h1 h2
    have hj : j < n := by simpa [lk] using h2
    have e1 := Array.getElem?_eq_getElem h1
    have e2 := Array.getElem?_eq_getElem h2
    rw [Array.getElem?_setIfInBounds] at e1
    have e3 : (lk n (k + 1))[j]? = some (decide (j < k + 1)) := by unfold lk; rw [Array.getElem?_map, Array.getElem?_range]; simp [hj]
    have e4 : (lk n k)[j]? = some (decide (j < k)) := by unfold lk; rw [Array.getElem?_map, Array.getElem?_range]; simp [hj]
    rw [e3] at e2
    have f2 := Option.some.inj e2
    by_cases e : k = j
    · subst e
      rw [if_pos rfl, if_pos (by simpa [lk] using hj)] at e1
      rw [← Option.some.inj e1, ← f2]
      simp
    · rw [if_neg e, e4] at e1
      rw [← Option.some.inj e1, ← f2, Bool.eq_iff_iff]
      simp only [decide_eq_true_eq]
      omega
def sets (A : Array Value) : List (Nat × Value) → Array Value
  | [] => A
  | (t, v) :: r => sets (A.setIfInBounds t v) r
theorem sets_size : ∀ (L : List (Nat × Value)) (A : Array Value), (sets A L).size = A.size
  | [], A => rfl
  | (t, v) :: r, A => by rw [sets, sets_size r, Array.size_setIfInBounds]
theorem sets_other : ∀ (L : List (Nat × Value)) (A : Array Value) (t : Nat), (∀ x ∈ L, x.1 ≠ t) → (sets A L).getD t undef = A.getD t undef
  | [], A, t, _ => rfl
  | (s, v) :: r, A, t, h => by
    rw [sets, sets_other r _ t (fun x hx => h x (List.mem_cons_of_mem _ hx)), getD_set, if_neg (fun e => h (s, v) List.mem_cons_self e.1)]
def keysOk (ops : Array Oper) (ks : List Nat) : Bool := ks.all fun t => ops.any fun o => o.dst == some t
theorem keys_T {ops : Array Oper} {A : Array Value} {L : List (Nat × Value)} (hk : keysOk ops (L.map (·.1)) = true) (t : Nat) (ht : ∀ (i : Nat) (o : Oper), ops[i]? = some o → o.dst ≠ some t) : (sets A L).getD t undef = A.getD t undef := by
  refine sets_other L _ t fun x hx e => ?_
  have := List.all_eq_true.1 hk x.1 (List.mem_map_of_mem hx)
  obtain ⟨o, ho, hb⟩ := (Array.any_iff_exists' this)
  obtain ⟨i, hi, rfl⟩ := Array.mem_iff_getElem.1 ho
  exact ht i _ (Array.getElem?_eq_getElem hi) (by rw [← e]; simpa using hb)
theorem wp_settled {P : Program} {id : Nat} {l : List Oper} {Q : Exit → Act → World → Prop} {a : Act} {w : World} (hm : P.follows .mixedOrders = true) (T : Array Value) (S : World → Prop) (L : List (Nat × Value))
    (hd : depsOk .any l.toArray = true) (hT : T = sets a.tmps L) (hk : keysOk l.toArray (L.map (·.1)) = true)
    (hS : S { w with drawn := w.drawn + 1 }) (hstep : AllOK P l.toArray T S l) (hQ : ∀ w', S w' → Q .normal { a with tmps := T } w') : (Code.region id l.toArray true).wp P Q a w := by
  refine wp_region_any hm (any_settled hd (by rw [hT, sets_size]) (fun t ht => by rw [hT]; exact keys_T hk t ht) hstep hQ _ _ _ _ (by simp) ?_ ?_ hS)
  · unfold unl
    exact Nat.le_trans (List.countP_le_length) (by simp)
  · refine ⟨rfl, rfl, fun i o d hi hdst hl => ?_, fun t _ => rfl⟩
    have hlt := (Array.getElem?_eq_some_iff.1 hi).1
    rw [Array.getD_eq_getD_getElem?, Array.getElem?_replicate, if_pos hlt] at hl
    cases hl
theorem wp_drawn {P : Program} {id : Nat} {l : List Oper} {Q : Exit → Act → World → Prop} {a : Act} {w : World} (hm : P.follows .mixedOrders = true) (L : List (Nat × Value)) (S : World → Prop)
    (hd : depsOk .any l.toArray = true) (hk : keysOk l.toArray (L.map (·.1)) = true)
    (hS : S { w with drawn := w.drawn + 1 }) (hstep : AllOK P l.toArray (sets a.tmps L) S l) (hQ : ∀ w', S w' → Q .normal { a with tmps := sets a.tmps L } w') : (Code.region id l.toArray true).wp P Q a w :=
  wp_settled hm (sets a.tmps L) S L hd rfl hk hS hstep hQ
section
variable {P : Program} {ops : Array Oper} {T : Array Value} {S : World → Prop} {o : Oper}
theorem StepOK.pure (d : Nat) (hw : Region.wanted o (yielded ops T) = true) (hd : o.dst = some d) (hr : ∀ w, (execOp (Act.eval ⟨T, []⟩) o).run P w = .ok (.value (T.getD d undef)) w) : StepOK P ops T S o := by
  refine ⟨fun _ w hS => ?_, fun h => by rw [hw] at h; cases h⟩
  unfold Tells
  rw [hr w]
  exact ⟨fun e he => by rw [hd] at he; cases he; rfl, hS⟩
theorem StepOK.load (d : Nat) (v : Value) (hv : T.getD d undef = v) (hw : Region.wanted o (yielded ops T) = true) (hd : o.dst = some d) (hr : ∀ w, S w → (execOp (Act.eval ⟨T, []⟩) o).run P w = .ok (.value v) w) : StepOK P ops T S o := by
  refine ⟨fun _ w hS => ?_, fun h => by rw [hw] at h; cases h⟩
  unfold Tells
  rw [hr w hS]
  exact ⟨fun e he => by rw [hd] at he; cases he; exact hv, hS⟩
theorem StepOK.off (d : Nat) (hw : Region.wanted o (yielded ops T) = false) (hd : o.dst = some d) (hu : T.getD d undef = undef) : StepOK P ops T S o :=
  ⟨fun h => (by rw [hw] at h; cases h), fun _ e he => by rw [hd] at he; cases he; exact hu⟩
theorem StepOK.call (d f : Nat) (args : Array Value) (v : Value) (hv : T.getD d undef = v) (hw : Region.wanted o (yielded ops T) = true) (hd : o.dst = some d) (hr : ∀ w, (execOp (Act.eval ⟨T, []⟩) o).run P w = .ok (.enter f args) w)
    (hc : ∀ w, S w → Calls P f args w fun e w' => e = .returned v ∧ S w') : StepOK P ops T S o := by
  refine ⟨fun _ w hS => ?_, fun h => by rw [hw] at h; cases h⟩
  unfold Tells
  rw [hr w]
  refine (hc w hS).mono ?_
  rintro e w' ⟨rfl, h⟩
  exact ⟨_, rfl, fun e he => by rw [hd] at he; cases he; exact hv, h⟩
end
theorem AllOK.at_ {P : Program} {ops : Array Oper} {T : Array Value} {S : World → Prop} {l : List Oper} {nb : Nat} (h : AllOK P ops T S (l.take nb)) (hops : ops = l.toArray) (i : Nat) (o : Oper) (hi : i < nb) (ho : ops[i]? = some o) : StepOK P ops T S o := by
  refine h.mem o ?_
  rw [hops] at ho
  have : (l.take nb)[i]? = some o := by rw [List.getElem?_take, if_pos hi]; simpa using ho
  exact List.mem_of_getElem? this
def waitT (md : Region.Mode) (ops : Array Oper) : List Nat :=
  ops.toList.foldl (fun acc o => acc ++ [o.after.toList.foldl (fun m e => if Region.binds md e then m ||| (1 <<< e.on) ||| acc.getD e.on 0 else m) 0]) []
def waits (md : Region.Mode) (ops : Array Oper) (i j : Nat) : Bool := ((waitT md ops).getD i 0).testBit j
structure Closed (md : Region.Mode) (ops : Array Oper) (listed : Array Bool) : Prop where
  size : listed.size = ops.size
  deps : ∀ j o, ops[j]? = some o → listed.getD j true = true → ∀ e ∈ o.after, Region.binds md e = true → listed.getD e.on false = true
def Due (md : Region.Mode) (ops : Array Oper) (i j : Nat) : Prop :=
  ∀ o, ops[i]? = some o → ∀ listed, Closed md ops listed → (∀ e ∈ o.after, Region.binds md e = true → listed.getD e.on false = true) → listed.getD j false = true
theorem bits_fold {md : Region.Mode} {acc : List Nat} {X : Nat → Prop} : ∀ (l : List Edge) (m : Nat), (∀ j, m.testBit j = true → X j) → (∀ e ∈ l, Region.binds md e = true → X e.on ∧ ∀ j, (acc.getD e.on 0).testBit j = true → X j) →
    ∀ j, (l.foldl (fun m e => if Region.binds md e then m ||| (1 <<< e.on) ||| acc.getD e.on 0 else m) m).testBit j = true → X j
  | [], m, hm, _, j, h => hm j h
  | e :: l, m, hm, hl, j, h => by
    rw [List.foldl_cons] at h
    refine bits_fold l _ ?_ (fun e' he' => hl e' (List.mem_cons_of_mem _ he')) j h
    intro j hj
    by_cases hb : Region.binds md e = true
    · rw [if_pos hb] at hj
      obtain ⟨h1, h2⟩ := hl e List.mem_cons_self hb
      rw [Nat.testBit_or, Nat.testBit_or, Bool.or_eq_true, Bool.or_eq_true] at hj
      rcases hj with (hj | hj) | hj
      · exact hm j hj
      · rw [Nat.one_shiftLeft, Nat.testBit_two_pow] at hj
        have : e.on = j := by simpa using hj
        rw [← this]; exact h1
      · exact h2 j hj
    · rw [if_neg hb] at hj
      exact hm j hj
theorem getD_true {A : Array Bool} {i : Nat} (h : A.getD i false = true) (b : Bool) : A.getD i b = true := by
  rw [Array.getD_eq_getD_getElem?] at h ⊢
  cases hx : A[i]? with
  | none => rw [hx] at h; cases h
  | some x => rw [hx] at h; exact h
theorem getD_lt {A : Array Bool} {i : Nat} (h : A.getD i false = true) : i < A.size := by
  rw [Array.getD_eq_getD_getElem?] at h
  rcases Nat.lt_or_ge i A.size with h1 | h1
  · exact h1
  · rw [Array.getElem?_eq_none h1] at h; cases h
theorem waitT_due {md : Region.Mode} {ops : Array Oper} : ∀ (suf pre : List Oper) (acc : List Nat), ops.toList = pre ++ suf → acc.length = pre.length → (∀ i j, (acc.getD i 0).testBit j = true → Due md ops i j) →
    ∀ i j, ((suf.foldl (fun acc o => acc ++ [o.after.toList.foldl (fun m e => if Region.binds md e then m ||| (1 <<< e.on) ||| acc.getD e.on 0 else m) 0]) acc).getD i 0).testBit j = true → Due md ops i j
  | [], _, _, _, _, h, i, j, hj => h i j hj
  | o :: suf, pre, acc, hl, hlen, h, i, j, hj => by
    rw [List.foldl_cons] at hj
    refine waitT_due suf (pre ++ [o]) _ (by rw [hl]; simp) (by simp [hlen]) ?_ i j hj
    intro i j hj
    have ho : ops[pre.length]? = some o := by rw [← Array.getElem?_toList, hl]; simp
    rw [List.getD_eq_getElem?_getD] at hj
    rcases Nat.lt_trichotomy i acc.length with hi | hi | hi
    · rw [List.getElem?_append_left hi] at hj
      exact h i j (by rw [List.getD_eq_getElem?_getD]; exact hj)
    · subst hi
      rw [List.getElem?_append_right (Nat.le_refl _), Nat.sub_self] at hj
      simp only [List.getElem?_cons_zero, Option.getD_some] at hj
      refine bits_fold (X := fun j => Due md ops acc.length j) o.after.toList 0 (fun j h0 => by simp at h0) ?_ j hj
      intro e he hb
      have he' : e ∈ o.after := by simpa using he
      refine ⟨fun o' ho' listed hc hd => ?_, fun j hj' o' ho' listed hc hd => ?_⟩
      · rw [hlen] at ho'
        rw [ho] at ho'
        cases ho'
        exact hd e he' hb
      · rw [hlen] at ho'
        rw [ho] at ho'
        cases ho'
        have hon := hd e he' hb
        have hlt := getD_lt hon
        have hx := Array.getElem?_eq_getElem (show e.on < ops.size by rw [← hc.size]; exact hlt)
        exact h e.on j hj' _ hx listed hc (hc.deps e.on _ hx (getD_true hon true))
    · rw [List.getElem?_eq_none (by simp; omega)] at hj
      simp at hj
theorem waits_due {md : Region.Mode} {ops : Array Oper} {i j : Nat} (h : waits md ops i j = true) : Due md ops i j :=
  waitT_due ops.toList [] [] rfl rfl (fun i j h => by simp at h) i j h
def upd (f : Nat → Bool) (i : Nat) : Nat → Bool := fun k => if k = i then true else f k
def StepE (P : Program) (md : Region.Mode) (ops : Array Oper) (T : Array Value) (S : (Nat → Bool) → World → Prop) (i : Nat) (o : Oper) : Prop :=
  ∀ (f : Nat → Bool) (w : World), f i = false → (∀ k, waits md ops i k = true → f k = true) → (∀ k, waits md ops k i = true → k < ops.size → f k = false) → S f w →
    (Region.wanted o (yielded ops T) = true → Tells P o (Act.eval ⟨T, []⟩) w fun u w' => (∀ d, o.dst = some d → T.getD d undef = u) ∧ S (upd f i) w') ∧
    (Region.wanted o (yielded ops T) = false → (∀ d, o.dst = some d → T.getD d undef = undef) ∧ S (upd f i) w)
def AllE (P : Program) (md : Region.Mode) (ops : Array Oper) (T : Array Value) (S : (Nat → Bool) → World → Prop) : Nat → List Oper → Prop
  | _, [] => True
  | i, o :: r => StepE P md ops T S i o ∧ AllE P md ops T S (i + 1) r
theorem AllE.at_ {P : Program} {md : Region.Mode} {ops : Array Oper} {T : Array Value} {S : (Nat → Bool) → World → Prop} : ∀ {l : List Oper} {n : Nat}, AllE P md ops T S n l → ∀ i o, l[i]? = some o → StepE P md ops T S (n + i) o
  | [], _, _, i, o, ho => by simp at ho
  | p :: r, n, h, 0, o, ho => by
    simp only [List.getElem?_cons_zero, Option.some.injEq] at ho
    subst ho
    exact h.1
  | p :: r, n, h, i + 1, o, ho => by
    have := AllE.at_ h.2 i o (by simpa using ho)
    rwa [show n + 1 + i = n + (i + 1) by omega] at this
theorem Closed.next {md : Region.Mode} {ops : Array Oper} {listed : Array Bool} (h : Closed md ops listed) {i : Nat} {o : Oper} (ho : ops[i]? = some o) (hun : listed.getD i true = false)
    (hdep : ∀ e ∈ o.after, Region.binds md e = true → listed.getD e.on false = true) : Closed md ops (listed.setIfInBounds i true) := by
  have keep : ∀ k, listed.getD k false = true → (listed.setIfInBounds i true).getD k false = true := fun k hk => by
    have hlt := getD_lt hk
    rw [Array.getD_eq_getD_getElem?, Array.getElem?_setIfInBounds] at *
    split
    · split
      · rfl
      · omega
    · exact hk
  refine ⟨by simpa using h.size, fun j p hj hl e he hb => keep _ ?_⟩
  rw [listed_set hun] at hl
  by_cases e1 : i = j
  · subst e1
    rw [ho] at hj
    cases hj
    exact hdep e he hb
  · rw [if_neg e1] at hl
    exact h.deps j p hj hl e he hb
theorem any_ev {P : Program} {md : Region.Mode} {ops : Array Oper} {Q : Exit → Act → World → Prop} {T : Array Value} {S : (Nat → Bool) → World → Prop} {a0 : Act}
    (hd : depsOk md ops = true) (hsz : T.size = a0.tmps.size) (hT : ∀ t, (∀ (i : Nat) (o : Oper), ops[i]? = some o → o.dst ≠ some t) → T.getD t undef = a0.tmps.getD t undef)
    (hstep : ∀ i o, ops[i]? = some o → StepE P md ops T S i o) (hQ : ∀ f w, (∀ k, f k = true) → S f w → Q .normal { a0 with tmps := T } w) :
    ∀ (fuel : Nat) (listed : Array Bool) (a : Act) (w : World), Closed md ops listed → unl ops listed ≤ fuel → Inv ops T a0 listed a → S (fun k => listed.getD k true) w → wpAny P md ops Q fuel listed a w := by
  have hend : ∀ (listed : Array Bool) (a : Act) (w : World), listed.size = ops.size → Inv ops T a0 listed a → S (fun k => listed.getD k true) w → Region.ready md ops listed = [] → Q .normal a w := by
    intro listed a w hls hI hS hr
    have hall := all_listed hd hls hr
    rw [inv_end hsz hT hI hall]
    refine hQ _ w (fun k => ?_) hS
    rcases Nat.lt_or_ge k ops.size with h | h
    · exact hall k h
    · rw [Array.getD_eq_getD_getElem?, Array.getElem?_eq_none (by omega)]; rfl
  intro fuel
  induction fuel with
  | zero =>
    intro listed a w hc hu hI hS
    have hr : Region.ready md ops listed = [] := by
      rcases hr : Region.ready md ops listed with _ | ⟨i, r⟩
      · rfl
      · have hi : i ∈ Region.ready md ops listed := by rw [hr]; exact List.mem_cons_self
        obtain ⟨h1, h2, -⟩ := ready_spec hi
        have := unl_set h1 h2
        omega
    exact ⟨hr, hend listed a w hc.size hI hS hr⟩
  | succ fuel ih =>
    intro listed a w hc hu hI hS
    refine ⟨hend listed a w hc.size hI hS, fun i hi => ?_⟩
    obtain ⟨hlt, hun, o, ho, hdep⟩ := ready_spec hi
    have hupd : (fun k => (listed.setIfInBounds i true).getD k true) = upd (fun k => listed.getD k true) i := by
      funext k
      unfold upd
      rw [listed_set hun]
      by_cases e : k = i
      · subst e; simp
      · rw [if_neg (fun h => e h.symm), if_neg e]
    obtain ⟨s1, s2⟩ := hstep i o ho (fun k => listed.getD k true) w hun
      (fun k hk => getD_true (waits_due hk o ho listed hc hdep) true)
      (fun k hk hks => by
        cases hl : listed.getD k true with
        | false => rfl
        | true =>
          have hx := Array.getElem?_eq_getElem hks
          have := getD_true (waits_due hk _ hx listed hc (hc.deps k _ hx hl)) true
          rw [hun] at this
          cases this) hS
    have h := step_core (Q := Q) (S := S (upd (fun k => listed.getD k true) i)) hd hsz hT hc.size ho hun hdep hI s1 s2 (K := wpAny P md ops Q fuel (listed.setIfInBounds i true))
      (fun u w' hi' hs' => ih _ _ _ (hc.next ho hun hdep) (by have := unl_set hlt hun; omega) hi' (by rw [hupd]; exact hs'))
    unfold wpOp
    simp only [ho]
    by_cases hw : Region.wanted o (yielded ops a.tmps) = true
    · rw [if_pos hw] at h ⊢
      exact .inl h
    · rw [if_neg hw] at h ⊢
      exact h
theorem wp_events {P : Program} {id : Nat} {l : List Oper} {Q : Exit → Act → World → Prop} {a : Act} {w : World} (hm : P.follows .mixedOrders = true) (L : List (Nat × Value)) (S : (Nat → Bool) → World → Prop)
    (hd : depsOk .any l.toArray = true) (hk : keysOk l.toArray (L.map (·.1)) = true)
    (hS : ∀ f, (∀ k, k < l.length → f k = false) → S f { w with drawn := w.drawn + 1 }) (hstep : AllE P .any l.toArray (sets a.tmps L) S 0 l)
    (hQ : ∀ f w', (∀ k, f k = true) → S f w' → Q .normal { a with tmps := sets a.tmps L } w') : (Code.region id l.toArray true).wp P Q a w := by
  have hf : ∀ i, i < l.toArray.size → (Array.replicate l.toArray.size false).getD i true = false := fun i hi => by
    rw [Array.getD_eq_getD_getElem?, Array.getElem?_replicate, if_pos hi]; rfl
  refine wp_region_any hm (any_ev hd (sets_size _ _) (fun t ht => keys_T hk t ht) (fun i o ho => by have := hstep.at_ i o (by simpa using ho); rwa [Nat.zero_add] at this) hQ _ _ _ _
    ⟨by simp, fun j o hj hl => by rw [hf j (Array.getElem?_eq_some_iff.1 hj).1] at hl; cases hl⟩ ?_ ?_ (hS _ fun k hk => hf k (by simpa using hk)))
  · unfold unl
    exact Nat.le_trans (List.countP_le_length) (by simp)
  · refine ⟨rfl, rfl, fun i o d hi hdst hl => ?_, fun t _ => rfl⟩
    rw [hf i (Array.getElem?_eq_some_iff.1 hi).1] at hl
    cases hl
section
variable {P : Program} {md : Region.Mode} {ops : Array Oper} {T : Array Value} {S : (Nat → Bool) → World → Prop} {i : Nat} {o : Oper}
theorem StepE.pure (d : Nat) (hw : Region.wanted o (yielded ops T) = true) (hd : o.dst = some d) (hr : ∀ w, (execOp (Act.eval ⟨T, []⟩) o).run P w = .ok (.value (T.getD d undef)) w) (hS : ∀ f w, S f w → S (upd f i) w) : StepE P md ops T S i o := by
  intro f w _ _ _ h
  refine ⟨fun _ => ?_, fun h => by rw [hw] at h; cases h⟩
  unfold Tells
  rw [hr w]
  exact ⟨fun e he => by rw [hd] at he; cases he; rfl, hS f w h⟩
theorem StepE.load (d : Nat) (v : Value) (hv : T.getD d undef = v) (hw : Region.wanted o (yielded ops T) = true) (hd : o.dst = some d) (hS : ∀ f w, S f w → S (upd f i) w)
    (hr : ∀ f w, (∀ k, waits md ops i k = true → f k = true) → (∀ k, waits md ops k i = true → k < ops.size → f k = false) → S f w → (execOp (Act.eval ⟨T, []⟩) o).run P w = .ok (.value v) w) : StepE P md ops T S i o := by
  intro f w _ h1 h2 h
  refine ⟨fun _ => ?_, fun h => by rw [hw] at h; cases h⟩
  unfold Tells
  rw [hr f w h1 h2 h]
  exact ⟨fun e he => by rw [hd] at he; cases he; exact hv, hS f w h⟩
theorem StepE.off (d : Nat) (hw : Region.wanted o (yielded ops T) = false) (hd : o.dst = some d) (hu : T.getD d undef = undef) (hS : ∀ f w, S f w → S (upd f i) w) : StepE P md ops T S i o :=
  fun f w _ _ _ h => ⟨fun h => (by rw [hw] at h; cases h), fun _ => ⟨fun e he => by rw [hd] at he; cases he; exact hu, hS f w h⟩⟩
theorem StepE.call (d f : Nat) (args : Array Value) (v : Value) (hv : T.getD d undef = v) (hw : Region.wanted o (yielded ops T) = true) (hd : o.dst = some d) (hr : ∀ w, (execOp (Act.eval ⟨T, []⟩) o).run P w = .ok (.enter f args) w)
    (hc : ∀ g w, g i = false → (∀ k, waits md ops i k = true → g k = true) → (∀ k, waits md ops k i = true → k < ops.size → g k = false) → S g w → Calls P f args w fun e w' => e = .returned v ∧ S (upd g i) w') : StepE P md ops T S i o := by
  intro g w h0 h1 h2 h
  refine ⟨fun _ => ?_, fun h => by rw [hw] at h; cases h⟩
  unfold Tells
  rw [hr w]
  refine (hc g w h0 h1 h2 h).mono ?_
  rintro e w' ⟨rfl, h⟩
  exact ⟨_, rfl, fun e he => by rw [hd] at he; cases he; exact hv, h⟩
theorem StepE.event (u : Value) (hv : ∀ d, o.dst = some d → T.getD d undef = u) (hw : Region.wanted o (yielded ops T) = true)
    (hr : ∀ g w, g i = false → (∀ k, waits md ops i k = true → g k = true) → (∀ k, waits md ops k i = true → k < ops.size → g k = false) → S g w → ∃ w', ((execOp (Act.eval ⟨T, []⟩) o).run P w = .ok (.value u) w' ∨ ((execOp (Act.eval ⟨T, []⟩) o).run P w = .ok .skip w' ∧ u = undef)) ∧ S (upd g i) w') : StepE P md ops T S i o := by
  intro g w h0 h1 h2 h
  refine ⟨fun _ => ?_, fun h => by rw [hw] at h; cases h⟩
  obtain ⟨w', hx | ⟨hx, rfl⟩, hs⟩ := hr g w h0 h1 h2 h
  · unfold Tells
    rw [hx]
    exact ⟨fun d hd => hv d hd, hs⟩
  · unfold Tells
    rw [hx]
    exact ⟨fun d hd => hv d hd, hs⟩
end
def Agree (ops : Array Oper) (f : Nat → Bool) (T T' : Array Value) : Prop := ∀ j p d, ops[j]? = some p → p.dst = some d → f j = true → T'.getD d undef = T.getD d undef
def StepC {C : Type} (P : Program) (md : Region.Mode) (ops : Array Oper) (T : C → Array Value) (S : (Nat → Bool) → C → World → Prop) (i : Nat) (o : Oper) : Prop :=
  ∀ (f : Nat → Bool) (c : C) (w : World), f i = false → (∀ k, waits md ops i k = true → f k = true) → (∀ k, waits md ops k i = true → k < ops.size → f k = false) → S f c w →
    (Region.wanted o (yielded ops (T c)) = true → Tells P o (Act.eval ⟨T c, []⟩) w fun u w' => ∃ c', (∀ d, o.dst = some d → (T c').getD d undef = u) ∧ Agree ops f (T c) (T c') ∧ S (upd f i) c' w') ∧
    (Region.wanted o (yielded ops (T c)) = false → (∀ d, o.dst = some d → (T c).getD d undef = undef) ∧ S (upd f i) c w)
def AllC {C : Type} (P : Program) (md : Region.Mode) (ops : Array Oper) (T : C → Array Value) (S : (Nat → Bool) → C → World → Prop) : Nat → List Oper → Prop
  | _, [] => True
  | i, o :: r => StepC P md ops T S i o ∧ AllC P md ops T S (i + 1) r
theorem AllC.at_ {C : Type} {P : Program} {md : Region.Mode} {ops : Array Oper} {T : C → Array Value} {S : (Nat → Bool) → C → World → Prop} : ∀ {l : List Oper} {n : Nat}, AllC P md ops T S n l → ∀ i o, l[i]? = some o → StepC P md ops T S (n + i) o
  | [], _, _, i, o, ho => by simp at ho
  | p :: r, n, h, 0, o, ho => by
    simp only [List.getElem?_cons_zero, Option.some.injEq] at ho
    subst ho
    exact h.1
  | p :: r, n, h, i + 1, o, ho => by
    have := AllC.at_ h.2 i o (by simpa using ho)
    rwa [show n + 1 + i = n + (i + 1) by omega] at this
theorem any_ch {C : Type} {P : Program} {md : Region.Mode} {ops : Array Oper} {Q : Exit → Act → World → Prop} {T : C → Array Value} {S : (Nat → Bool) → C → World → Prop} {a0 : Act}
    (hd : depsOk md ops = true) (hsz : ∀ c, (T c).size = a0.tmps.size) (hT : ∀ c t, (∀ (i : Nat) (o : Oper), ops[i]? = some o → o.dst ≠ some t) → (T c).getD t undef = a0.tmps.getD t undef)
    (hstep : ∀ i o, ops[i]? = some o → StepC P md ops T S i o) (hQ : ∀ f c w, (∀ k, f k = true) → S f c w → Q .normal { a0 with tmps := T c } w) :
    ∀ (fuel : Nat) (listed : Array Bool) (c : C) (a : Act) (w : World), Closed md ops listed → unl ops listed ≤ fuel → Inv ops (T c) a0 listed a → S (fun k => listed.getD k true) c w → wpAny P md ops Q fuel listed a w := by
  have hend : ∀ (listed : Array Bool) (c : C) (a : Act) (w : World), listed.size = ops.size → Inv ops (T c) a0 listed a → S (fun k => listed.getD k true) c w → Region.ready md ops listed = [] → Q .normal a w := by
    intro listed c a w hls hI hS hr
    have hall := all_listed hd hls hr
    rw [inv_end (hsz c) (hT c) hI hall]
    refine hQ _ c w (fun k => ?_) hS
    rcases Nat.lt_or_ge k ops.size with h | h
    · exact hall k h
    · rw [Array.getD_eq_getD_getElem?, Array.getElem?_eq_none (by omega)]; rfl
  intro fuel
  induction fuel with
  | zero =>
    intro listed c a w hc hu hI hS
    have hr : Region.ready md ops listed = [] := by
      rcases hr : Region.ready md ops listed with _ | ⟨i, r⟩
      · rfl
      · have hi : i ∈ Region.ready md ops listed := by rw [hr]; exact List.mem_cons_self
        obtain ⟨h1, h2, -⟩ := ready_spec hi
        have := unl_set h1 h2
        omega
    exact ⟨hr, hend listed c a w hc.size hI hS hr⟩
  | succ fuel ih =>
    intro listed c a w hc hu hI hS
    refine ⟨hend listed c a w hc.size hI hS, fun i hi => ?_⟩
    obtain ⟨hlt, hun, o, ho, hdep⟩ := ready_spec hi
    have hupd : (fun k => (listed.setIfInBounds i true).getD k true) = upd (fun k => listed.getD k true) i := by
      funext k
      unfold upd
      rw [listed_set hun]
      by_cases e : k = i
      · subst e; simp
      · rw [if_neg (fun h => e h.symm), if_neg e]
    obtain ⟨s1, s2⟩ := hstep i o ho (fun k => listed.getD k true) c w hun
      (fun k hk => getD_true (waits_due hk o ho listed hc hdep) true)
      (fun k hk hks => by
        cases hl : listed.getD k true with
        | false => rfl
        | true =>
          have hx := Array.getElem?_eq_getElem hks
          have := getD_true (waits_due hk _ hx listed hc (hc.deps k _ hx hl)) true
          rw [hun] at this
          cases this) hS
    obtain ⟨hwant, hex⟩ := core_looks hd (hsz c) (hT c) hc.size ho hdep hI
    have next : ∀ (c' : C) (u : Value) (w' : World), (∀ d, o.dst = some d → (T c').getD d undef = u) → Agree ops (fun k => listed.getD k true) (T c) (T c') → S (upd (fun k => listed.getD k true) i) c' w' →
        wpAny P md ops Q fuel (listed.setIfInBounds i true) (a.put o.dst u) w' := by
      intro c' u w' hu' hag hS'
      have hI' : Inv ops (T c') a0 listed a := by
        obtain ⟨h1, h2, h3, h4⟩ := hI
        exact ⟨h1, h2, fun j p d hj hp hl => (h3 j p d hj hp hl).trans (hag j p d hj hp hl).symm, h4⟩
      exact ih _ c' _ _ (hc.next ho hun hdep) (by have := unl_set hlt hun; omega) (core_put hd (hsz c') ho hun hI' u hu') (by rw [hupd]; exact hS')
    unfold wpOp
    simp only [ho]
    by_cases hw : Region.wanted o (yielded ops a.tmps) = true
    · rw [if_pos hw]
      have ht := s1 (by rw [← hwant]; exact hw)
      unfold Tells at ht
      rw [← hex] at ht
      refine .inl (Tells.wp ht fun u w' hr => ?_)
      obtain ⟨c', h1, h2, h3⟩ := hr
      exact next c' u w' h1 h2 h3
    · rw [if_neg hw]
      obtain ⟨h1, h2⟩ := s2 (by rw [← hwant]; simpa using hw)
      exact next c undef w h1 (fun _ _ _ _ _ _ => rfl) h2
theorem wp_choice {C : Type} {P : Program} {id : Nat} {l : List Oper} {Q : Exit → Act → World → Prop} {a : Act} {w : World} (hm : P.follows .mixedOrders = true) (L : C → List (Nat × Value)) (S : (Nat → Bool) → C → World → Prop)
    (hd : depsOk .any l.toArray = true) (hk : ∀ c, keysOk l.toArray ((L c).map (·.1)) = true) (c0 : C)
    (hS : ∀ f, (∀ k, k < l.length → f k = false) → S f c0 { w with drawn := w.drawn + 1 }) (hstep : AllC P .any l.toArray (fun c => sets a.tmps (L c)) S 0 l)
    (hQ : ∀ f c w', (∀ k, f k = true) → S f c w' → Q .normal { a with tmps := sets a.tmps (L c) } w') : (Code.region id l.toArray true).wp P Q a w := by
  have hf : ∀ i, i < l.toArray.size → (Array.replicate l.toArray.size false).getD i true = false := fun i hi => by
    rw [Array.getD_eq_getD_getElem?, Array.getElem?_replicate, if_pos hi]; rfl
  refine wp_region_any hm (any_ch hd (fun c => sets_size _ _) (fun c t ht => keys_T (hk c) t ht) (fun i o ho => by have := hstep.at_ i o (by simpa using ho); rwa [Nat.zero_add] at this) hQ _ _ c0 _ _
    ⟨by simp, fun j o hj hl => by rw [hf j (Array.getElem?_eq_some_iff.1 hj).1] at hl; cases hl⟩ ?_ ?_ (hS _ fun k hk => hf k (by simpa using hk)))
  · unfold unl
    exact Nat.le_trans (List.countP_le_length) (by simp)
  · refine ⟨rfl, rfl, fun i o d hi hdst hl => ?_, fun t _ => rfl⟩
    rw [hf i (Array.getElem?_eq_some_iff.1 hi).1] at hl
    cases hl
section
variable {C : Type} {P : Program} {md : Region.Mode} {ops : Array Oper} {T : C → Array Value} {S : (Nat → Bool) → C → World → Prop} {i : Nat} {o : Oper}
theorem StepC.of (h : ∀ c, StepE P md ops (T c) (fun f w => S f c w) i o) : StepC P md ops T S i o := by
  intro f c w h0 h1 h2 hS
  obtain ⟨s1, s2⟩ := h c f w h0 h1 h2 hS
  refine ⟨fun hw => ?_, s2⟩
  have := s1 hw
  unfold Tells at this ⊢
  generalize (execOp (Act.eval ⟨T c, []⟩) o).run P w = r at this ⊢
  cases r with
  | ok x w' =>
    cases x with
    | value v => exact ⟨c, this.1, fun _ _ _ _ _ _ => rfl, this.2⟩
    | skip => exact ⟨c, this.1, fun _ _ _ _ _ _ => rfl, this.2⟩
    | enter f args => exact Calls.mono this fun e w2 he => by obtain ⟨v, rfl, hr⟩ := he; exact ⟨v, rfl, c, hr.1, fun _ _ _ _ _ _ => rfl, hr.2⟩
    | _ => exact this.elim
  | halt x w' => exact this.elim
end
section
variable {C : Type} {P : Program} {md : Region.Mode} {ops : Array Oper} {T : C → Array Value} {S : (Nat → Bool) → C → World → Prop} {i : Nat} {o : Oper}
theorem StepC.chooseCall (fn : Nat) (args : C → Array Value) (hw : ∀ c, Region.wanted o (yielded ops (T c)) = true) (hr : ∀ c w, (execOp (Act.eval ⟨T c, []⟩) o).run P w = .ok (.enter fn (args c)) w)
    (hc : ∀ g c w, g i = false → (∀ k, waits md ops i k = true → g k = true) → (∀ k, waits md ops k i = true → k < ops.size → g k = false) → S g c w →
      Calls P fn (args c) w fun e w' => ∃ u c', e = .returned u ∧ (∀ d, o.dst = some d → (T c').getD d undef = u) ∧ Agree ops g (T c) (T c') ∧ S (upd g i) c' w') : StepC P md ops T S i o := by
  intro g c w h0 h1 h2 h
  refine ⟨fun _ => ?_, fun h => by rw [hw] at h; cases h⟩
  unfold Tells
  rw [hr c w]
  refine (hc g c w h0 h1 h2 h).mono ?_
  rintro e w' ⟨u, c', rfl, hv, hag, hs⟩
  exact ⟨u, rfl, c', hv, hag, hs⟩
end
theorem sets_same : ∀ (L : List (Nat × Value)) (A B : Array Value) (d : Nat), A.size = B.size → A.getD d undef = B.getD d undef → (sets A L).getD d undef = (sets B L).getD d undef
  | [], A, B, d, _, h => h
  | (t, v) :: r, A, B, d, hs, h => by
    rw [sets, sets]
    refine sets_same r _ _ d (by simp [hs]) ?_
    rw [getD_set, getD_set, hs, h]
theorem sets_append : ∀ (M L : List (Nat × Value)) (A : Array Value), sets A (M ++ L) = sets (sets A M) L
  | [], _, _ => rfl
  | (t, v) :: r, L, A => by rw [List.cons_append, sets, sets, sets_append r L]
theorem sets_not : ∀ (M : List (Nat × Value)) (A : Array Value) (d : Nat), (∀ x ∈ M, x.1 ≠ d) → (sets A M).getD d undef = A.getD d undef
  | [], _, _, _ => rfl
  | (t, v) :: r, A, d, h => by
    rw [sets, sets_not r _ d (fun x hx => h x (List.mem_cons_of_mem _ hx)), getD_set, if_neg (fun e => h (t, v) List.mem_cons_self e.1)]
theorem many_but {md : Region.Mode} {ops : Array Oper} {f : Nat → Bool} {A : Array Value} {L M M' : List (Nat × Value)} (NK : List (Nat × Nat)) (hd : depsOk md ops = true)
    (hM : M.map (·.1) = NK.map (·.2)) (hM' : M'.map (·.1) = NK.map (·.2)) (hN : NK.all (fun x => match ops[x.1]? with | some o => o.dst == some x.2 | none => false) = true) (hf : ∀ x ∈ NK, f x.1 = false) :
    Agree ops f (sets A (M ++ L)) (sets A (M' ++ L)) := by
  intro j p d hj hp hl
  have key : ∀ x ∈ NK, x.2 ≠ d := by
    intro x hx e
    have h1 := List.all_eq_true.1 hN x hx
    cases ho : ops[x.1]? with
    | none => rw [ho] at h1; cases h1
    | some o =>
      rw [ho] at h1
      have hdst : o.dst = some x.2 := by simpa using h1
      have := (deps_spec hd ho).2.2.1 x.2 hdst j p hj (by rw [hp, e])
      rw [this, hf x hx] at hl
      cases hl
  have keyM : ∀ (N : List (Nat × Value)), N.map (·.1) = NK.map (·.2) → ∀ x ∈ N, x.1 ≠ d := by
    intro N hN x hx e
    have : x.1 ∈ NK.map (·.2) := by rw [← hN]; exact List.mem_map_of_mem hx
    obtain ⟨y, hy, hyx⟩ := List.mem_map.1 this
    exact key y hy (hyx.trans e)
  rw [sets_append, sets_append]
  refine sets_same L _ _ d (by rw [sets_size, sets_size]) ?_
  rw [sets_not M' A d (keyM M' hM'), sets_not M A d (keyM M hM)]
end Go.RS
