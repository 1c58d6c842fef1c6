/- A region that draws its order, all of whose operations tell settled values: whatever order comes, the frame behind is the same. The law CpuConds, walked along its one true way. The row's condition on the listed table of functions, as facts of cells; and what flags that are handed in hold. The law CpuConds: its function tells true. The law sundiallaw14_CpuConds answers true for every input that the row admits, and the input reads as it did. Conditions: those of the given row alone. (Printed by rowgen.py out of the walk and the plain law.) -/
import Derived.Orders
import Derived.Tactics
import Derived.Test.YtpmclnlgipphmaaDoorCq9
import Derived.Test.YtpmclnlgipphmaaDoorRows
import Derived.ProofKit
import Derived.LaidMore
import Derived.OpenShut
import Derived.ChangeSame
import Derived.Stop.Joined
import Derived.Test.YtpmclnlgipphmaaDoorTie
import Derived.Test.YtpmclnlgipphmaaDoorCards
import Derived.Lay
import Derived.LaidOnce
import Derived.SevenTiedAt
import Derived.WalkKit
import Derived.ShutString
import Derived.ChangeOld
import Derived.Below
import Derived.SizedLaws
namespace Go.RS
set_option linter.unusedVariables false
def Tells (P : Program) (o : Oper) (ρ : Operand → Value) (w : World) (R : Value → World → Prop) : Prop :=
  match (execOp ρ o).run P w with
  | .ok (.value v) w' => R v w'
  | .ok .skip w' => R undef w'
  | .ok (.enter f args) w' => Calls P f args w' fun e w2 => ∃ v, e = .returned v ∧ R v w2
  | _ => False
theorem Tells.wp {P : Program} {o : Oper} {a : Act} {w : World} {R : Value → World → Prop} {K : Act → World → Prop} {Q : Exit → Act → World → Prop}
    (h : Tells P o a.eval w R) (hK : ∀ v w', R v w' → K (a.put o.dst v) w') : o.wp P a w K Q := by
  unfold Oper.wp
  unfold Tells at h
  generalize (execOp a.eval o).run P w = r at h ⊢
  cases r with
  | ok x w' =>
    cases x with
    | value v => exact hK _ _ h
    | skip => exact hK _ _ h
    | enter f args => exact Calls.mono h fun e w2 he => by obtain ⟨v, rfl, hr⟩ := he; exact hK _ _ hr
    | _ => exact h.elim
  | halt x w' => exact h.elim
theorem Array.any_iff_exists' {α : Type} {p : α → Bool} {A : Array α} (h : A.any p = true) : ∃ x, x ∈ A ∧ p x = true := by
  rw [Array.any_eq_true] at h
  obtain ⟨i, hi, hp⟩ := h
  exact ⟨A[i], Array.getElem_mem hi, hp⟩
def depsOk (md : Region.Mode) (ops : Array Oper) : Bool :=
  (List.range ops.size).all fun i =>
    match ops[i]? with
    | none => true
    | some o =>
      o.after.all (fun e => !Region.binds md e || decide (e.on < i)) &&
      (o.looksAt ops).all (fun t => (List.range ops.size).all fun j =>
        match ops[j]? with
        | none => true
        | some p => p.dst != some t || o.after.any (fun e => Region.binds md e && e.on == j)) &&
      (match o.dst with
       | none => true
       | some d => (List.range ops.size).all fun j => j == i || (match ops[j]? with | none => true | some p => p.dst != some d)) &&
      (match o.op with | .select _ _ => false | _ => true)
theorem deps_spec {md : Region.Mode} {ops : Array Oper} (h : depsOk md ops = true) {i : Nat} {o : Oper} (hi : ops[i]? = some o) :
    (∀ e ∈ o.after, Region.binds md e = true → e.on < i) ∧
    (∀ t ∈ o.looksAt ops, ∀ j p, ops[j]? = some p → p.dst = some t → ∃ e ∈ o.after, Region.binds md e = true ∧ e.on = j) ∧
    (∀ d, o.dst = some d → ∀ j p, ops[j]? = some p → p.dst = some d → j = i) ∧ (∀ cs b, o.op ≠ .select cs b) := by
  have hlt : ∀ {j : Nat} {p : Oper}, ops[j]? = some p → j < ops.size := fun hj => (Array.getElem?_eq_some_iff.1 hj).1
  unfold depsOk at h
  have h1 := List.all_eq_true.1 h i (List.mem_range.2 (hlt hi))
  simp only [hi, Bool.and_eq_true] at h1
  obtain ⟨⟨⟨a1, a2⟩, a3⟩, a4⟩ := h1
  refine ⟨fun e he hb => ?_, fun t ht j p hj hd => ?_, fun d hd j p hj hp => ?_, fun cs b e => ?_⟩
  · have := Array.all_eq_true_iff_forall_mem.1 a1 e he
    simpa [hb] using this
  · have := List.all_eq_true.1 (List.all_eq_true.1 a2 t ht) j (List.mem_range.2 (hlt hj))
    simp only [hj, hd, bne_self_eq_false, Bool.false_or] at this
    obtain ⟨e, he, hb⟩ := (Array.any_iff_exists' this)
    simp only [Bool.and_eq_true, beq_iff_eq] at hb
    exact ⟨e, he, hb.1, hb.2⟩
  · simp only [hd] at a3
    have := List.all_eq_true.1 a3 j (List.mem_range.2 (hlt hj))
    simpa [hj, hp] using this
  · rw [e] at a4
    cases a4
def Inv (ops : Array Oper) (T : Array Value) (a0 : Act) (listed : Array Bool) (a : Act) : Prop :=
  a.defers = a0.defers ∧ a.tmps.size = a0.tmps.size ∧
  (∀ i o d, ops[i]? = some o → o.dst = some d → listed.getD i true = true → a.tmps.getD d undef = T.getD d undef) ∧
  (∀ t, (∀ i o, ops[i]? = some o → o.dst = some t → listed.getD i true = false) → a.tmps.getD t undef = a0.tmps.getD t undef)
def StepOK (P : Program) (ops : Array Oper) (T : Array Value) (S : World → Prop) (o : Oper) : Prop :=
  (Region.wanted o (yielded ops T) = true → ∀ w, S w → Tells P o (Act.eval ⟨T, []⟩) w fun u w' => (∀ d, o.dst = some d → T.getD d undef = u) ∧ S w') ∧
  (Region.wanted o (yielded ops T) = false → ∀ d, o.dst = some d → T.getD d undef = undef)
def AllOK (P : Program) (ops : Array Oper) (T : Array Value) (S : World → Prop) : List Oper → Prop
  | [] => True
  | o :: r => StepOK P ops T S o ∧ AllOK P ops T S r
theorem AllOK.mem {P : Program} {ops : Array Oper} {T : Array Value} {S : World → Prop} : ∀ {l : List Oper}, AllOK P ops T S l → ∀ o ∈ l, StepOK P ops T S o
  | [], _, o, ho => by cases ho
  | p :: r, h, o, ho => by
    rcases List.mem_cons.1 ho with rfl | ho
    · exact h.1
    · exact AllOK.mem h.2 o ho
def unl (ops : Array Oper) (listed : Array Bool) : Nat := (List.range ops.size).countP fun i => !listed.getD i true
theorem getD_set {A : Array Value} {d t : Nat} {v : Value} : (A.setIfInBounds d v).getD t undef = if d = t ∧ d < A.size then v else A.getD t undef := by
  simp only [Array.getD_eq_getD_getElem?, Array.getElem?_setIfInBounds]
  by_cases e : d = t
  · subst e
    by_cases h : d < A.size
    · simp [h]
    · simp [h]
  · simp [e]
theorem listed_set {A : Array Bool} {i j : Nat} (hi : A.getD i true = false) : (A.setIfInBounds i true).getD j true = (if i = j then true else A.getD j true) := by
  simp only [Array.getD_eq_getD_getElem?, Array.getElem?_setIfInBounds] at hi ⊢
  by_cases e : i = j
  · subst e
    by_cases h : i < A.size
    · simp [h]
    · simp [h]
  · simp [e]
theorem unl_set {ops : Array Oper} {listed : Array Bool} {i : Nat} (hi : i < ops.size) (hl : listed.getD i true = false) : unl ops (listed.setIfInBounds i true) < unl ops listed := by
  unfold unl
  have hmem : i ∈ List.range ops.size := List.mem_range.2 hi
  generalize List.range ops.size = l at hmem
  have hle : ∀ l : List Nat, l.countP (fun j => !(listed.setIfInBounds i true).getD j true) ≤ l.countP (fun j => !listed.getD j true) := fun l =>
    List.countP_mono_left fun j _ h => by
      rw [listed_set hl] at h
      split at h
      · cases h
      · exact h
  induction l with
  | nil => cases hmem
  | cons j r ih =>
    by_cases e : j = i
    · subst e
      have := hle r
      simp only [List.countP_cons, listed_set hl, if_true, hl, Bool.not_true, Bool.not_false, Bool.false_eq_true, if_false]
      simp only [listed_set hl] at this
      omega
    · have := ih ((List.mem_cons.1 hmem).resolve_left (fun h => e h.symm))
      have e2 : ((!(listed.setIfInBounds i true).getD j true) = true) = ((!listed.getD j true) = true) := by rw [listed_set hl, if_neg (fun h => e h.symm)]
      simp only [List.countP_cons, e2] at this ⊢
      omega
theorem ready_spec {md : Region.Mode} {ops : Array Oper} {listed : Array Bool} {i : Nat} (h : i ∈ Region.ready md ops listed) :
    i < ops.size ∧ listed.getD i true = false ∧ ∃ o, ops[i]? = some o ∧ ∀ e ∈ o.after, Region.binds md e = true → listed.getD e.on false = true := by
  unfold Region.ready at h
  obtain ⟨h1, h2⟩ := List.mem_filter.1 h
  have hlt := List.mem_range.1 h1
  simp only [Bool.and_eq_true, Bool.not_eq_true'] at h2
  refine ⟨hlt, h2.1, ops[i], Array.getElem?_eq_getElem hlt, fun e he hb => ?_⟩
  have h3 := h2.2
  rw [Array.getElem?_eq_getElem hlt] at h3
  simp only [Option.map_some, Option.getD_some] at h3
  have := Array.all_eq_true_iff_forall_mem.1 h3 e he
  simpa [hb] using this
theorem all_listed {md : Region.Mode} {ops : Array Oper} {listed : Array Bool} (hd : depsOk md ops = true) (hsz : listed.size = ops.size) (h : Region.ready md ops listed = []) : ∀ i, i < ops.size → listed.getD i true = true := by
  intro i
  induction i using Nat.strongRecOn with
  | ind i ih =>
    intro hi
    cases hl : listed.getD i true with
    | true => rfl
    | false =>
      have ho := Array.getElem?_eq_getElem hi
      have hsp := deps_spec hd ho
      have : i ∈ Region.ready md ops listed := by
        unfold Region.ready
        refine List.mem_filter.2 ⟨List.mem_range.2 hi, ?_⟩
        rw [hl, ho]
        simp only [Bool.not_false, Bool.true_and, Option.map_some, Option.getD_some]
        refine Array.all_eq_true_iff_forall_mem.2 fun e he => ?_
        cases hb : Region.binds md e with
        | false => rfl
        | true =>
          have hlt := hsp.1 e he hb
          have := ih e.on hlt (by omega)
          simp only [Bool.not_true, Bool.false_or]
          rw [Array.getD_eq_getD_getElem?] at this ⊢
          rw [Array.getElem?_eq_getElem (by omega)] at this ⊢
          simpa using this
      rw [h] at this
      cases this
theorem looks_tmp {ops : Array Oper} {o : Oper} {t : Tmp} (h : Operand.tmp t ∈ o.op.operands) : t ∈ o.looksAt ops := List.mem_append_left _ (List.mem_filterMap.2 ⟨.tmp t, by simpa using h, rfl⟩)
theorem looks_guard {ops : Array Oper} {o : Oper} {g : Nat} {b : Bool} {t : Tmp} (h : o.guard = some (g, b)) (ht : (ops[g]?).bind (·.dst) = some t) : t ∈ o.looksAt ops := by
  refine List.mem_append_right _ ?_
  rw [h]
  simp [ht]
theorem step_inv {P : Program} {md : Region.Mode} {ops : Array Oper} {Q : Exit → Act → World → Prop} {T : Array Value} {S : World → Prop} {a0 : Act}
    (hd : depsOk md ops = true) (hsz : T.size = a0.tmps.size) (hT : ∀ t, (∀ (i : Nat) (o : Oper), ops[i]? = some o → o.dst ≠ some t) → T.getD t undef = a0.tmps.getD t undef)
    (hstep : AllOK P ops T S ops.toList) {listed : Array Bool} (hls : listed.size = ops.size) {i : Nat} {o : Oper} (ho : ops[i]? = some o) (hun : listed.getD i true = false)
    (hdep : ∀ e ∈ o.after, Region.binds md e = true → listed.getD e.on false = true) {a : Act} {w : World} (hI : Inv ops T a0 listed a) (hS : S w) {K : Act → World → Prop}
    (hK : ∀ u w', Inv ops T a0 (listed.setIfInBounds i true) (a.put o.dst u) → S w' → K (a.put o.dst u) w') :
    if Region.wanted o (yielded ops a.tmps) then o.wp P a w K Q else K (a.put o.dst undef) w := by
  have hlt := (Array.getElem?_eq_some_iff.1 ho).1
  obtain ⟨d1, d2, d3, d4⟩ := deps_spec hd ho
  have hI' := hI
  obtain ⟨h1, h2, h3, h4⟩ := hI'
  have hsame : ∀ t ∈ o.looksAt ops, a.tmps.getD t undef = T.getD t undef := by
    intro t ht
    by_cases hw : ∃ (j : Nat) (p : Oper), ops[j]? = some p ∧ p.dst = some t
    · obtain ⟨j, p, hj, hp⟩ := hw
      obtain ⟨e, he, hb, rfl⟩ := d2 t ht j p hj hp
      refine h3 e.on p t hj hp ?_
      have := hdep e he hb
      rw [Array.getD_eq_getD_getElem?] at this ⊢
      rw [Array.getElem?_eq_getElem (by have := d1 e he hb; omega)] at this ⊢
      simpa using this
    · rw [hT t (fun j p hj hp => hw ⟨j, p, hj, hp⟩)]
      exact h4 t (fun j p hj hp => absurd ⟨j, p, hj, hp⟩ hw)
  have hev : ∀ x ∈ o.op.operands, a.eval x = Act.eval ⟨T, []⟩ x := by
    intro x hx
    cases x with
    | tmp t => exact hsame t (looks_tmp hx)
    | _ => rfl
  have hwant : Region.wanted o (yielded ops a.tmps) = Region.wanted o (yielded ops T) := by
    unfold Region.wanted
    rcases hg : o.guard with _ | ⟨g, b⟩
    · rfl
    · simp only []
      have : yielded ops a.tmps g = yielded ops T g := by
        unfold yielded
        rcases ht : (ops[g]?).bind (·.dst) with _ | t
        · rfl
        · simp only [Option.bind_some]
          have hs := hsame t (looks_guard hg ht)
          rw [Array.getD_eq_getD_getElem?, Array.getD_eq_getD_getElem?] at hs
          by_cases hlt : t < T.size
          · have hlt' : t < a.tmps.size := by rw [h2, ← hsz]; exact hlt
            have e1 : a.tmps[t]? = some a.tmps[t] := Array.getElem?_eq_getElem hlt'
            have e2 : T[t]? = some T[t] := Array.getElem?_eq_getElem hlt
            rw [e1, e2] at hs ⊢
            simp only [Option.getD_some] at hs
            rw [hs]
          · have e1 : a.tmps[t]? = none := Array.getElem?_eq_none (by rw [h2, ← hsz]; exact Nat.le_of_not_lt hlt)
            have e2 : T[t]? = none := Array.getElem?_eq_none (Nat.le_of_not_lt hlt)
            rw [e1, e2]
      rw [this]
  have hex : execOp a.eval o = execOp (Act.eval ⟨T, []⟩) o := execOp_congr o d4 hev
  have hput : ∀ u w', (∀ d, o.dst = some d → T.getD d undef = u) → S w' → K (a.put o.dst u) w' := by
    intro u w' hu' hS'
    refine hK u w' ?_ hS'
    rcases hdst : o.dst with _ | d
    · refine ⟨h1, h2, fun j p t hj hp hl => ?_, fun t ht => h4 t fun j p hj hp => ?_⟩
      · rw [listed_set hun] at hl
        by_cases e : i = j
        · subst e
          rw [ho] at hj
          cases hj
          rw [hdst] at hp
          cases hp
        · rw [if_neg e] at hl
          exact h3 j p t hj hp hl
      · have := ht j p hj hp
        rw [listed_set hun] at this
        by_cases e : i = j
        · rw [if_pos e] at this; cases this
        · rwa [if_neg e] at this
    · have hv := hu' d hdst
      refine ⟨h1, by simp [Act.put, h2], fun j p t hj hp hl => ?_, fun t ht => ?_⟩
      · simp only [Act.put]
        rw [getD_set]
        rw [listed_set hun] at hl
        by_cases e : i = j
        · subst e
          rw [ho] at hj
          cases hj
          rw [hdst] at hp
          cases hp
          by_cases hlt2 : d < a.tmps.size
          · rw [if_pos ⟨rfl, hlt2⟩, hv]
          · rw [if_neg (fun h => hlt2 h.2)]
            have hge : a.tmps.size ≤ d := Nat.le_of_not_lt (fun h => hlt2 h)
            have e1 : a.tmps[d]? = none := Array.getElem?_eq_none hge
            have e2 : T[d]? = none := Array.getElem?_eq_none (by rw [hsz, ← h2]; exact hge)
            rw [Array.getD_eq_getD_getElem?, Array.getD_eq_getD_getElem?, e1, e2]
        · rw [if_neg e] at hl
          have hne : ¬ (d = t ∧ d < a.tmps.size) := fun h => e (d3 d hdst j p hj (by rw [hp, h.1])).symm
          rw [if_neg hne]
          exact h3 j p t hj hp hl
      · simp only [Act.put]
        rw [getD_set]
        have hne : ¬ (d = t ∧ d < a.tmps.size) := fun h => by
          have := ht i o ho (by rw [hdst, h.1])
          rw [listed_set hun, if_pos rfl] at this
          cases this
        rw [if_neg hne]
        refine h4 t fun j p hj hp => ?_
        have := ht j p hj hp
        rw [listed_set hun] at this
        by_cases e : i = j
        · rw [if_pos e] at this; cases this
        · rwa [if_neg e] at this
  obtain ⟨s1, s2⟩ := hstep.mem o (by rw [Array.mem_toList_iff]; exact Array.mem_of_getElem? ho)
  by_cases hw : Region.wanted o (yielded ops a.tmps) = true
  · rw [if_pos hw]
    refine Tells.wp (R := fun u w' => (∀ d, o.dst = some d → T.getD d undef = u) ∧ S w') ?_ fun u w' hr => hput u w' hr.1 hr.2
    unfold Tells
    rw [hex]
    exact s1 (by rw [← hwant]; exact hw) w hS
  · rw [if_neg hw]
    exact hput undef w (s2 (by rw [← hwant]; simpa using hw)) hS
theorem inv_end {ops : Array Oper} {T : Array Value} {a0 : Act} (hsz : T.size = a0.tmps.size) (hT : ∀ t, (∀ (i : Nat) (o : Oper), ops[i]? = some o → o.dst ≠ some t) → T.getD t undef = a0.tmps.getD t undef)
    {listed : Array Bool} {a : Act} (hI : Inv ops T a0 listed a) (hall : ∀ i, i < ops.size → listed.getD i true = true) : a = { a0 with tmps := T } := by
  obtain ⟨h1, h2, h3, h4⟩ := hI
  have ha : a = { a0 with tmps := T } := by
    have ht : a.tmps = T := by
      refine Array.ext (by omega) fun t ht1 ht2 => ?_
      have : a.tmps.getD t undef = T.getD t undef := by
        by_cases hw : ∃ (i : Nat) (o : Oper), ops[i]? = some o ∧ o.dst = some t
        · obtain ⟨i, o, hi, hdst⟩ := hw
          exact h3 i o t hi hdst (hall i (Array.getElem?_eq_some_iff.1 hi).1)
        · rw [hT t (fun i o hi hdst => hw ⟨i, o, hi, hdst⟩)]
          exact h4 t (fun i o hi hdst => absurd ⟨i, o, hi, hdst⟩ hw)
      rw [Array.getD_eq_getD_getElem?, Array.getD_eq_getD_getElem?, Array.getElem?_eq_getElem ht1, Array.getElem?_eq_getElem ht2] at this
      simpa using this
    cases a
    simp only at h1 ht
    subst h1 ht
    rfl
  exact ha
theorem any_settled {P : Program} {md : Region.Mode} {ops : Array Oper} {Q : Exit → Act → World → Prop} {T : Array Value} {S : World → Prop} {a0 : Act}
    (hd : depsOk md ops = true) (hsz : T.size = a0.tmps.size) (hT : ∀ t, (∀ (i : Nat) (o : Oper), ops[i]? = some o → o.dst ≠ some t) → T.getD t undef = a0.tmps.getD t undef)
    (hstep : AllOK P ops T S ops.toList) (hQ : ∀ w, S w → Q .normal { a0 with tmps := T } w) :
    ∀ (fuel : Nat) (listed : Array Bool) (a : Act) (w : World), listed.size = ops.size → unl ops listed ≤ fuel → Inv ops T a0 listed a → S w → wpAny P md ops Q fuel listed a w := by
  have hend : ∀ (listed : Array Bool) (a : Act) (w : World), listed.size = ops.size → Inv ops T a0 listed a → S w → Region.ready md ops listed = [] → Q .normal a w := by
    intro listed a w hls hI hS hr
    rw [inv_end hsz hT hI (all_listed hd hls hr)]
    exact hQ w hS
  intro fuel
  induction fuel with
  | zero =>
    intro listed a w hls hu hI hS
    have hr : Region.ready md ops listed = [] := by
      rcases hr : Region.ready md ops listed with _ | ⟨i, r⟩
      · rfl
      · have hi : i ∈ Region.ready md ops listed := by rw [hr]; exact List.mem_cons_self
        obtain ⟨h1, h2, -⟩ := ready_spec hi
        have := unl_set h1 h2
        omega
    exact ⟨hr, hend listed a w hls hI hS hr⟩
  | succ fuel ih =>
    intro listed a w hls hu hI hS
    refine ⟨hend listed a w hls hI hS, fun i hi => ?_⟩
    obtain ⟨hlt, hun, o, ho, hdep⟩ := ready_spec hi
    have h := step_inv (Q := Q) hd hsz hT hstep hls ho hun hdep hI hS (K := wpAny P md ops Q fuel (listed.setIfInBounds i true))
      (fun u w' hi' hs' => ih _ _ _ (by simpa using hls) (by have := unl_set hlt hun; omega) hi' hs')
    unfold wpOp
    simp only [ho]
    by_cases hw : Region.wanted o (yielded ops a.tmps) = true
    · rw [if_pos hw] at h ⊢
      exact .inl h
    · rw [if_neg hw] at h ⊢
      exact h
def lk (n k : Nat) : Array Bool := (Array.range n).map fun i => decide (i < k)
def sets (A : Array Value) : List (Nat × Value) → Array Value
  | [] => A
  | (t, v) :: r => sets (A.setIfInBounds t v) r
theorem sets_size : ∀ (L : List (Nat × Value)) (A : Array Value), (sets A L).size = A.size
  | [], A => rfl
  | (t, v) :: r, A => by rw [sets, sets_size r, Array.size_setIfInBounds]
theorem sets_other : ∀ (L : List (Nat × Value)) (A : Array Value) (t : Nat), (∀ x ∈ L, x.1 ≠ t) → (sets A L).getD t undef = A.getD t undef
  | [], A, t, _ => rfl
  | (s, v) :: r, A, t, h => by
    rw [sets, sets_other r _ t (fun x hx => h x (List.mem_cons_of_mem _ hx)), getD_set, if_neg (fun e => h (s, v) List.mem_cons_self e.1)]
def keysOk (ops : Array Oper) (ks : List Nat) : Bool := ks.all fun t => ops.any fun o => o.dst == some t
theorem keys_T {ops : Array Oper} {A : Array Value} {L : List (Nat × Value)} (hk : keysOk ops (L.map (·.1)) = true) (t : Nat) (ht : ∀ (i : Nat) (o : Oper), ops[i]? = some o → o.dst ≠ some t) : (sets A L).getD t undef = A.getD t undef := by
  refine sets_other L _ t fun x hx e => ?_
  have := List.all_eq_true.1 hk x.1 (List.mem_map_of_mem hx)
  obtain ⟨o, ho, hb⟩ := (Array.any_iff_exists' this)
  obtain ⟨i, hi, rfl⟩ := Array.mem_iff_getElem.1 ho
  exact ht i _ (Array.getElem?_eq_getElem hi) (by rw [← e]; simpa using hb)
theorem wp_settled {P : Program} {id : Nat} {l : List Oper} {Q : Exit → Act → World → Prop} {a : Act} {w : World} (hm : P.follows .mixedOrders = true) (T : Array Value) (S : World → Prop) (L : List (Nat × Value))
    (hd : depsOk .any l.toArray = true) (hT : T = sets a.tmps L) (hk : keysOk l.toArray (L.map (·.1)) = true)
    (hS : S { w with drawn := w.drawn + 1 }) (hstep : AllOK P l.toArray T S l) (hQ : ∀ w', S w' → Q .normal { a with tmps := T } w') : (Code.region id l.toArray true).wp P Q a w := by
  refine wp_region_any hm (any_settled hd (by rw [hT, sets_size]) (fun t ht => by rw [hT]; exact keys_T hk t ht) hstep hQ _ _ _ _ (by simp) ?_ ?_ hS)
  · unfold unl
    exact Nat.le_trans (List.countP_le_length) (by simp)
  · refine ⟨rfl, rfl, fun i o d hi hdst hl => ?_, fun t _ => rfl⟩
    have hlt := (Array.getElem?_eq_some_iff.1 hi).1
    rw [Array.getD_eq_getD_getElem?, Array.getElem?_replicate, if_pos hlt] at hl
    cases hl
section
variable {P : Program} {ops : Array Oper} {T : Array Value} {S : World → Prop} {o : Oper}
theorem StepOK.pure (d : Nat) (hw : Region.wanted o (yielded ops T) = true) (hd : o.dst = some d) (hr : ∀ w, (execOp (Act.eval ⟨T, []⟩) o).run P w = .ok (.value (T.getD d undef)) w) : StepOK P ops T S o := by
  refine ⟨fun _ w hS => ?_, fun h => by rw [hw] at h; cases h⟩
  unfold Tells
  rw [hr w]
  exact ⟨fun e he => by rw [hd] at he; cases he; rfl, hS⟩
theorem StepOK.load (d : Nat) (v : Value) (hv : T.getD d undef = v) (hw : Region.wanted o (yielded ops T) = true) (hd : o.dst = some d) (hr : ∀ w, S w → (execOp (Act.eval ⟨T, []⟩) o).run P w = .ok (.value v) w) : StepOK P ops T S o := by
  refine ⟨fun _ w hS => ?_, fun h => by rw [hw] at h; cases h⟩
  unfold Tells
  rw [hr w hS]
  exact ⟨fun e he => by rw [hd] at he; cases he; exact hv, hS⟩
theorem StepOK.off (d : Nat) (hw : Region.wanted o (yielded ops T) = false) (hd : o.dst = some d) (hu : T.getD d undef = undef) : StepOK P ops T S o :=
  ⟨fun h => (by rw [hw] at h; cases h), fun _ e he => by rw [hd] at he; cases he; exact hu⟩
theorem StepOK.call (d f : Nat) (args : Array Value) (v : Value) (hv : T.getD d undef = v) (hw : Region.wanted o (yielded ops T) = true) (hd : o.dst = some d) (hr : ∀ w, (execOp (Act.eval ⟨T, []⟩) o).run P w = .ok (.enter f args) w)
    (hc : ∀ w, S w → Calls P f args w fun e w' => e = .returned v ∧ S w') : StepOK P ops T S o := by
  refine ⟨fun _ w hS => ?_, fun h => by rw [hw] at h; cases h⟩
  unfold Tells
  rw [hr w]
  refine (hc w hS).mono ?_
  rintro e w' ⟨rfl, h⟩
  exact ⟨_, rfl, fun e he => by rw [hd] at he; cases he; exact hv, h⟩
end
end Go.RS
namespace Go.Proofs.YtpmclnlgipphmaaDoor.B
open Go.RowKit Go.Proofs.YtpmclnlgipphmaaDoorW.PrintWords Go.Proofs.YtpmclnlgipphmaaDoorW.PrintMore Go.RF
set_option linter.unusedVariables false
set_option linter.unusedSimpArgs false
attribute [local go_sem] Oper.semAt_some
theorem fin_of {n : Nat} {P : Int → Prop} (h : ∀ r : Fin n, P (r.val : Int)) (x : Int) (h0 : 0 ≤ x) (h1 : x < n) : P x := by
  have e := h ⟨x.toNat, by omega⟩
  have : (((⟨x.toNat, by omega⟩ : Fin n).val : Nat) : Int) = x := by show ((x.toNat : Nat) : Int) = x; omega
  rw [this] at e
  exact e
theorem xor_cases : ∀ c : Fin 256, 0 ≤ Go.bits .xor .u8 (c.val : Int) 1 ∧ Go.bits .xor .u8 (c.val : Int) 1 < 256 ∧ Go.bits .xor .u8 (c.val : Int) 1 / 2 = (c.val : Int) / 2 ∧ Go.bits .xor .u8 (c.val : Int) 1 % 2 = 1 - (c.val : Int) % 2 := by decide +kernel
theorem xor_1 (c : Int) (h0 : 0 ≤ c) (h1 : c < 256) : 0 ≤ Go.bits .xor .u8 c 1 ∧ Go.bits .xor .u8 c 1 < 256 ∧ Go.bits .xor .u8 c 1 / 2 = c / 2 ∧ Go.bits .xor .u8 c 1 % 2 = 1 - c % 2 :=
  fin_of (n := 256) (P := fun c => 0 ≤ Go.bits .xor .u8 c 1 ∧ Go.bits .xor .u8 c 1 < 256 ∧ Go.bits .xor .u8 c 1 / 2 = c / 2 ∧ Go.bits .xor .u8 c 1 % 2 = 1 - c % 2) xor_cases c h0 h1
theorem cond_xor (C Z S O P : Bool) (c : Int) (h0 : 0 ≤ c) (h1 : c < 256) : condF C Z S O P (Go.bits .xor .u8 c 1) = !condF C Z S O P c := by
  obtain ⟨_, _, e1, e2⟩ := xor_1 c h0 h1
  unfold condF
  rw [e1, e2]
  rcases (by omega : c % 2 = 0 ∨ c % 2 = 1) with h | h <;> rw [h] <;> cases holdsF (c / 2 % 8).toNat C Z S O P <;> rfl
theorem cond_16 (C Z S O P : Bool) (c : Int) (h0 : 0 ≤ c) : condF C Z S O P (c % 16) = condF C Z S O P c := by
  unfold condF
  rw [show c % 16 / 2 % 8 = c / 2 % 8 by omega, show c % 16 % 2 = c % 2 by omega]
def packOf (c : Int) : Int := packL (Go.bits .and .u8 c 1 != 0) (Go.bits .and .u8 c 64 != 0) (Go.bits .and .u8 c 128 != 0) (Go.bits .and .u8 c 8 != 0) (Go.bits .and .u8 c 4 != 0) bitsL
theorem pack_cases : ∀ c : Fin 256, Go.bits .andNot .u8 (packOf (c.val : Int)) (c.val : Int) = 0 := by decide +kernel
theorem pack_of (c : Int) (h0 : 0 ≤ c) (h1 : c < 256) : Go.bits .andNot .u8 (packOf c) c = 0 := fin_of (n := 256) (P := fun c => Go.bits .andNot .u8 (packOf c) c = 0) pack_cases c h0 h1
theorem unpack_back (C Z S O P : Bool) : (Go.bits .and .u8 (packL C Z S O P bitsL) 1 != 0) = C ∧ (Go.bits .and .u8 (packL C Z S O P bitsL) 64 != 0) = Z ∧ (Go.bits .and .u8 (packL C Z S O P bitsL) 128 != 0) = S ∧ (Go.bits .and .u8 (packL C Z S O P bitsL) 8 != 0) = O ∧ (Go.bits .and .u8 (packL C Z S O P bitsL) 4 != 0) = P := by
  cases C <;> cases Z <;> cases S <;> cases O <;> cases P <;> decide +kernel
theorem unpacked_back (C Z S O P : Bool) (w : World) : Calls Tryd.prog 13 #[.int .u8 (packL C Z S O P bitsL)] w fun e w' => e = .returned (.agg #[.bool C, .bool Z, .bool S, .bool O, .bool P]) ∧ Below w.heap.size w w' := by
  have h := unpacked_calls (packL C Z S O P bitsL) w
  obtain ⟨h1, h2, h3, h4, h5⟩ := unpack_back C Z S O P
  rw [h1, h2, h3, h4, h5] at h
  exact h
theorem cond_c (C Z S O P : Bool) (c : Int) (a : Bool) (ha : condF C Z S O P c = a) (h0 : 0 ≤ c) (h1 : c < 256) (w : World) (hT : Tab w) : Calls Tryd.prog 12 #[.agg #[.bool C, .bool Z, .bool S, .bool O, .bool P], .int .u8 c] w fun e w' => e = .returned (.bool a) ∧ Below w.heap.size w w' := by
  have h := cond_calls C Z S O P c h0 h1 w hT
  rw [ha] at h
  exact h
theorem load27 (V : World) (o : Oper) (act : Act) (ho : o.op = .load 27 (.tmp 2)) (g : Nat) (hx : act.eval (.tmp 2) = .pointer (some ⟨g, 0, none⟩)) {cs : Array Value} (hs : (Tryd.prog.info? 27).map (·.size) = some cs.size) (hg : V.heap[g]? = some (.cells cs 27 (0, 0))) : (execOp act.eval o).run Tryd.prog V = .ok (.value (.agg cs)) V := by
  unfold execOp
  simp only [ho, hx, Instr.loadAt, Instr.sureAddr, Sem.run_bind, Sem.run_pure, Result.andThen_ok, run_loadVar_row V g 27 27 cs (0, 0) _ hg Tryd.underlying27 rfl hs]
def CcS (g : Nat) (C Z S O P : Bool) (V : World) : Prop := V.heap[g]? = some (.cells #[.bool C, .bool Z, .bool S, .bool O, .bool P] 27 (0, 0)) ∧ Tab V
theorem CcS.below {g : Nat} {C Z S O P : Bool} {V W : World} (h : CcS g C Z S O P V) (hb : Below V.heap.size V W) : CcS g C Z S O P W := ⟨blk_below h.1 hb, h.2.below hb⟩
theorem c14 : ∀ C Z S O P, condF C Z S O P 14 = ((S != O) || Z) := by decide
theorem c8 : ∀ C Z S O P, condF C Z S O P 8 = S := by decide
theorem c0 : ∀ C Z S O P, condF C Z S O P 0 = O := by decide
theorem packed_of (c : Int) (w : World) : Calls Tryd.prog 14 #[.agg #[.bool (Go.bits .and .u8 c 1 != 0), .bool (Go.bits .and .u8 c 64 != 0), .bool (Go.bits .and .u8 c 128 != 0), .bool (Go.bits .and .u8 c 8 != 0), .bool (Go.bits .and .u8 c 4 != 0)]] w fun e w' => e = .returned (.int .u8 (packOf c)) ∧ Below w.heap.size w w' := packed_calls _ _ _ _ _ w
theorem c6 : ∀ C Z S O P, condF C Z S O P 6 = (C || Z) := by decide
theorem c2 : ∀ C Z S O P, condF C Z S O P 2 = C := by decide
theorem c4 : ∀ C Z S O P, condF C Z S O P 4 = Z := by decide
theorem c12 : ∀ C Z S O P, condF C Z S O P 12 = (S != O) := by decide
theorem cond_k (C Z S O P : Bool) (c : Int) (a : Bool) (ha : condF C Z S O P c = a) (h0 : 0 ≤ c) (h1 : c < 256) (w0 w : World) (g : Nat) (hS : CcS g C Z S O P w ∧ Below w0.heap.size w0 w) : Calls Tryd.prog 12 #[.agg #[.bool C, .bool Z, .bool S, .bool O, .bool P], .int .u8 c] w fun e w' => e = .returned (.bool a) ∧ (CcS g C Z S O P w' ∧ Below w0.heap.size w0 w') :=
  (cond_c C Z S O P c a ha h0 h1 w hS.1.2).mono fun e w' h => ⟨h.1, hS.1.below h.2, below_step hS.2 h.2⟩
theorem keepS {C Z S O P : Bool} {w0 w : World} {g : Nat} {f : Nat} {args : Array Value} {v : Value} (hS : CcS g C Z S O P w ∧ Below w0.heap.size w0 w) (h : Calls Tryd.prog f args w fun e w' => e = .returned v ∧ Below w.heap.size w w') : Calls Tryd.prog f args w fun e w' => e = .returned v ∧ (CcS g C Z S O P w' ∧ Below w0.heap.size w0 w') :=
  h.mono fun e w' h => ⟨h.1, hS.1.below h.2, below_step hS.2 h.2⟩
def cdT1 (C Z S O P : Bool) (c : Int) (a : Bool) (g : Nat) : Array Value := #[.agg #[.bool C, .bool Z, .bool S, .bool O, .bool P], .int .u8 c, .pointer (some ⟨g, 0, none⟩), undef, .bool false, undef, undef, undef, .agg #[.bool C, .bool Z, .bool S, .bool O, .bool P], .int .u8 c, .bool a, .agg #[.bool C, .bool Z, .bool S, .bool O, .bool P], .int .u8 c, .int .u8 (Go.bits .xor .u8 c 1), .bool (!a), .bool false, .bool false, .agg #[.bool C, .bool Z, .bool S, .bool O, .bool P], .int .u8 c, .bool a, .agg #[.bool C, .bool Z, .bool S, .bool O, .bool P], .int .u8 c, .int .u8 (c % 16), .bool a, .bool false, .bool false, .bool false, .agg #[.bool C, .bool Z, .bool S, .bool O, .bool P], .int .u8 (packL C Z S O P bitsL), .agg #[.bool C, .bool Z, .bool S, .bool O, .bool P], .agg #[.bool C, .bool Z, .bool S, .bool O, .bool P], .bool false, .bool false, undef, undef, undef, undef, undef, undef, undef, undef, undef, undef, undef, undef, undef, undef, undef, undef, undef, undef, undef, undef, undef, undef, undef, undef, undef, undef, undef, undef, undef, undef, undef, undef, undef, undef, undef, undef, undef, undef, undef, undef, undef, undef]
def cdT3 (C Z S O P : Bool) (c : Int) (a : Bool) (g : Nat) : Array Value := #[.agg #[.bool C, .bool Z, .bool S, .bool O, .bool P], .int .u8 c, .pointer (some ⟨g, 0, none⟩), undef, .bool false, .bool C, .bool Z, .bool (S != O), .agg #[.bool C, .bool Z, .bool S, .bool O, .bool P], .int .u8 c, .bool a, .agg #[.bool C, .bool Z, .bool S, .bool O, .bool P], .int .u8 c, .int .u8 (Go.bits .xor .u8 c 1), .bool (!a), .bool false, .bool false, .agg #[.bool C, .bool Z, .bool S, .bool O, .bool P], .int .u8 c, .bool a, .agg #[.bool C, .bool Z, .bool S, .bool O, .bool P], .int .u8 c, .int .u8 (c % 16), .bool a, .bool false, .bool false, .bool false, .agg #[.bool C, .bool Z, .bool S, .bool O, .bool P], .int .u8 (packL C Z S O P bitsL), .agg #[.bool C, .bool Z, .bool S, .bool O, .bool P], .agg #[.bool C, .bool Z, .bool S, .bool O, .bool P], .bool false, .bool false, .agg #[.bool C, .bool Z, .bool S, .bool O, .bool P], .bool C, .agg #[.bool C, .bool Z, .bool S, .bool O, .bool P], .bool Z, .agg #[.bool C, .bool Z, .bool S, .bool O, .bool P], .bool (S != O), undef, undef, undef, undef, undef, undef, undef, undef, undef, undef, undef, undef, undef, undef, undef, undef, undef, undef, undef, undef, undef, undef, undef, undef, undef, undef, undef, undef, undef, undef, undef, undef, undef, undef, undef, undef]
def cdT4 (C Z S O P : Bool) (c : Int) (a : Bool) (g : Nat) : Array Value := #[.agg #[.bool C, .bool Z, .bool S, .bool O, .bool P], .int .u8 c, .pointer (some ⟨g, 0, none⟩), undef, .bool true, .bool C, .bool Z, .bool (S != O), .agg #[.bool C, .bool Z, .bool S, .bool O, .bool P], .int .u8 c, .bool a, .agg #[.bool C, .bool Z, .bool S, .bool O, .bool P], .int .u8 c, .int .u8 (Go.bits .xor .u8 c 1), .bool (!a), .bool false, .bool false, .agg #[.bool C, .bool Z, .bool S, .bool O, .bool P], .int .u8 c, .bool a, .agg #[.bool C, .bool Z, .bool S, .bool O, .bool P], .int .u8 c, .int .u8 (c % 16), .bool a, .bool false, .bool false, .bool false, .agg #[.bool C, .bool Z, .bool S, .bool O, .bool P], .int .u8 (packL C Z S O P bitsL), .agg #[.bool C, .bool Z, .bool S, .bool O, .bool P], .agg #[.bool C, .bool Z, .bool S, .bool O, .bool P], .bool false, .bool false, .agg #[.bool C, .bool Z, .bool S, .bool O, .bool P], .bool C, .agg #[.bool C, .bool Z, .bool S, .bool O, .bool P], .bool Z, .agg #[.bool C, .bool Z, .bool S, .bool O, .bool P], .bool (S != O), .agg #[.bool C, .bool Z, .bool S, .bool O, .bool P], .bool (C || Z), .bool C, .bool C, (bif C then undef else .bool Z), .bool (C || Z), .bool true, .bool true, .agg #[.bool C, .bool Z, .bool S, .bool O, .bool P], .bool ((S != O) || Z), .bool (S != O), .bool (S != O), (bif (S != O) then undef else .bool Z), .bool ((S != O) || Z), .bool true, .bool true, .bool true, .bool (S != O), .agg #[.bool C, .bool Z, .bool S, .bool O, .bool P], .bool S, .agg #[.bool C, .bool Z, .bool S, .bool O, .bool P], .bool O, .bool (S != O), .bool true, .bool true, .bool true, .int .u8 c, .agg #[.bool (Go.bits .and .u8 c 1 != 0), .bool (Go.bits .and .u8 c 64 != 0), .bool (Go.bits .and .u8 c 128 != 0), .bool (Go.bits .and .u8 c 8 != 0), .bool (Go.bits .and .u8 c 4 != 0)], .int .u8 (packOf c), .int .u8 c, .int .u8 0, .bool true, .bool true, .bool true, .bool true, .bool true]
set_option maxHeartbeats 8000000 in
set_option maxRecDepth 100000 in
theorem conds_calls (C Z S O P : Bool) (c : Int) (w0 : World) (hT : Tab w0) (h0 : 0 ≤ c) (h1 : c < 256) : Calls Tryd.prog 5 #[.agg #[.bool C, .bool Z, .bool S, .bool O, .bool P], .int .u8 c] w0 fun e w' => e = .returned (.bool true) ∧ Below w0.heap.size w0 w' := by
  have hu27 := Tryd.underlying27
  have b0 := World.alloc_heap_new w0 (.cells #[.bool C, .bool Z, .bool S, .bool O, .bool P] 27)
  have hbl : Below w0.heap.size w0 (w0.alloc (.cells #[.bool C, .bool Z, .bool S, .bool O, .bool P] 27)) := bX_ (Below.refl _ _) _
  have HS : Aside0 (CcS w0.heap.size C Z S O P (w0.alloc (.cells #[.bool C, .bool Z, .bool S, .bool O, .bool P] 27))) := ⟨b0, hT.below hbl⟩
  have HB := Aside0.mk hbl
  clear b0 hbl hT
  obtain ⟨a, hA⟩ : ∃ a, condF C Z S O P c = a := ⟨_, rfl⟩
  have HA := Aside0.mk hA
  clear hA
  go_enter Tryd.func5, Tryd.ntmps5
  go_upto_region 1 with (fail)
  generalize w0.alloc (.cells #[.bool C, .bool Z, .bool S, .bool O, .bool P] 27) = w1 at *
  obtain ⟨g, hg⟩ : ∃ g, w0.heap.size = g := ⟨_, rfl⟩
  rw [hg] at HS
  (try rw [hg])
  have HG := Aside0.mk hg
  clear hg
  refine RS.wp_settled (by kernel_rfl) (cdT1 C Z S O P c a g) (fun V => CcS g C Z S O P V ∧ Below w0.heap.size w0 V) ([(8, .agg #[.bool C, .bool Z, .bool S, .bool O, .bool P]), (9, .int .u8 c), (10, .bool a), (11, .agg #[.bool C, .bool Z, .bool S, .bool O, .bool P]), (12, .int .u8 c), (13, .int .u8 (Go.bits .xor .u8 c 1)), (14, .bool (!a)), (15, .bool false), (16, .bool false), (17, .agg #[.bool C, .bool Z, .bool S, .bool O, .bool P]), (18, .int .u8 c), (19, .bool a), (20, .agg #[.bool C, .bool Z, .bool S, .bool O, .bool P]), (21, .int .u8 c), (22, .int .u8 (c % 16)), (23, .bool a), (24, .bool false), (25, .bool false), (26, .bool false), (27, .agg #[.bool C, .bool Z, .bool S, .bool O, .bool P]), (28, .int .u8 (packL C Z S O P bitsL)), (29, .agg #[.bool C, .bool Z, .bool S, .bool O, .bool P]), (30, .agg #[.bool C, .bool Z, .bool S, .bool O, .bool P]), (31, .bool false), (32, .bool false)]) (by kernel_rfl) (by kernel_rfl) (by kernel_rfl) ⟨HS.out, bW_ HB.out 1⟩ ?_ ?_
  · exact ⟨RS.StepOK.load 8 (.agg #[.bool C, .bool Z, .bool S, .bool O, .bool P]) (by kernel_rfl) (by kernel_rfl) rfl (fun w hS => load27 w _ ⟨_, []⟩ rfl g rfl (by kernel_rfl) hS.1.1),
      RS.StepOK.pure 9 (by kernel_rfl) rfl (fun w => by kernel_rfl),
      RS.StepOK.call 10 12 #[.agg #[.bool C, .bool Z, .bool S, .bool O, .bool P], .int .u8 c] (.bool a) (by kernel_rfl) (by kernel_rfl) rfl (fun w => by kernel_rfl) (fun w hS => cond_k C Z S O P c a HA.out h0 h1 w0 w g hS),
      RS.StepOK.load 11 (.agg #[.bool C, .bool Z, .bool S, .bool O, .bool P]) (by kernel_rfl) (by kernel_rfl) rfl (fun w hS => load27 w _ ⟨_, []⟩ rfl g rfl (by kernel_rfl) hS.1.1),
      RS.StepOK.pure 12 (by kernel_rfl) rfl (fun w => by kernel_rfl),
      RS.StepOK.pure 13 (by kernel_rfl) rfl (fun w => by kernel_rfl),
      RS.StepOK.call 14 12 #[.agg #[.bool C, .bool Z, .bool S, .bool O, .bool P], .int .u8 (Go.bits .xor .u8 c 1)] (.bool (!a)) (by kernel_rfl) (by kernel_rfl) rfl (fun w => by kernel_rfl) (fun w hS => cond_k C Z S O P (Go.bits .xor .u8 c 1) (!a) (by rw [cond_xor C Z S O P c h0 h1, HA.out]) (xor_1 c h0 h1).1 (xor_1 c h0 h1).2.1 w0 w g hS),
      (by cases a <;> exact RS.StepOK.pure 15 (by kernel_rfl) rfl (fun w => by kernel_rfl)),
      RS.StepOK.pure 16 (by kernel_rfl) rfl (fun w => by kernel_rfl),
      RS.StepOK.load 17 (.agg #[.bool C, .bool Z, .bool S, .bool O, .bool P]) (by kernel_rfl) (by kernel_rfl) rfl (fun w hS => load27 w _ ⟨_, []⟩ rfl g rfl (by kernel_rfl) hS.1.1),
      RS.StepOK.pure 18 (by kernel_rfl) rfl (fun w => by kernel_rfl),
      RS.StepOK.call 19 12 #[.agg #[.bool C, .bool Z, .bool S, .bool O, .bool P], .int .u8 c] (.bool a) (by kernel_rfl) (by kernel_rfl) rfl (fun w => by kernel_rfl) (fun w hS => cond_k C Z S O P c a HA.out h0 h1 w0 w g hS),
      RS.StepOK.load 20 (.agg #[.bool C, .bool Z, .bool S, .bool O, .bool P]) (by kernel_rfl) (by kernel_rfl) rfl (fun w hS => load27 w _ ⟨_, []⟩ rfl g rfl (by kernel_rfl) hS.1.1),
      RS.StepOK.pure 21 (by kernel_rfl) rfl (fun w => by kernel_rfl),
      RS.StepOK.load 22 (.int .u8 (c % 16)) (by kernel_rfl) (by kernel_rfl) rfl (fun w hS => by rw [← Int.tmod_eq_emod_of_nonneg h0]; kernel_rfl),
      RS.StepOK.call 23 12 #[.agg #[.bool C, .bool Z, .bool S, .bool O, .bool P], .int .u8 (c % 16)] (.bool a) (by kernel_rfl) (by kernel_rfl) rfl (fun w => by kernel_rfl) (fun w hS => cond_k C Z S O P (c % 16) a (by rw [cond_16 C Z S O P c h0, HA.out]) (by omega) (by omega) w0 w g hS),
      (by cases a <;> exact RS.StepOK.pure 24 (by kernel_rfl) rfl (fun w => by kernel_rfl)),
      RS.StepOK.pure 25 (by kernel_rfl) rfl (fun w => by kernel_rfl),
      RS.StepOK.pure 26 (by kernel_rfl) rfl (fun w => by kernel_rfl),
      RS.StepOK.load 27 (.agg #[.bool C, .bool Z, .bool S, .bool O, .bool P]) (by kernel_rfl) (by kernel_rfl) rfl (fun w hS => load27 w _ ⟨_, []⟩ rfl g rfl (by kernel_rfl) hS.1.1),
      RS.StepOK.call 28 14 #[.agg #[.bool C, .bool Z, .bool S, .bool O, .bool P]] (.int .u8 (packL C Z S O P bitsL)) (by kernel_rfl) (by kernel_rfl) rfl (fun w => by kernel_rfl) (fun w hS => keepS hS (packed_calls C Z S O P w)),
      RS.StepOK.call 29 13 #[.int .u8 (packL C Z S O P bitsL)] (.agg #[.bool C, .bool Z, .bool S, .bool O, .bool P]) (by kernel_rfl) (by kernel_rfl) rfl (fun w => by kernel_rfl) (fun w hS => keepS hS (unpacked_back C Z S O P w)),
      RS.StepOK.load 30 (.agg #[.bool C, .bool Z, .bool S, .bool O, .bool P]) (by kernel_rfl) (by kernel_rfl) rfl (fun w hS => load27 w _ ⟨_, []⟩ rfl g rfl (by kernel_rfl) hS.1.1),
      (by cases C <;> cases Z <;> cases S <;> cases O <;> cases P <;> exact RS.StepOK.pure 31 (by kernel_rfl) rfl (fun w => by kernel_rfl)),
      RS.StepOK.pure 32 (by kernel_rfl) rfl (fun w => by kernel_rfl), trivial⟩
  rintro w2 ⟨hs, hb⟩
  clear HS HB
  have HS := Aside0.mk hs
  have HB := Aside0.mk hb
  clear hs hb
  unfold cdT1
  go_upto_region 3 with (fail)
  refine RS.wp_settled (by kernel_rfl) (cdT3 C Z S O P c a g) (fun V => CcS g C Z S O P V ∧ Below w0.heap.size w0 V) ([(33, .agg #[.bool C, .bool Z, .bool S, .bool O, .bool P]), (34, .bool C), (35, .agg #[.bool C, .bool Z, .bool S, .bool O, .bool P]), (36, .bool Z), (37, .agg #[.bool C, .bool Z, .bool S, .bool O, .bool P]), (38, .bool (S != O)), (5, .bool C), (6, .bool Z), (7, .bool (S != O))]) (by kernel_rfl) (by kernel_rfl) (by kernel_rfl) ⟨HS.out, bW_ HB.out 1⟩ ?_ ?_
  · exact ⟨RS.StepOK.load 33 (.agg #[.bool C, .bool Z, .bool S, .bool O, .bool P]) (by kernel_rfl) (by kernel_rfl) rfl (fun w hS => load27 w _ ⟨_, []⟩ rfl g rfl (by kernel_rfl) hS.1.1),
      RS.StepOK.call 34 12 #[.agg #[.bool C, .bool Z, .bool S, .bool O, .bool P], .int .u8 2] (.bool C) (by kernel_rfl) (by kernel_rfl) rfl (fun w => by kernel_rfl) (fun w hS => cond_k C Z S O P 2 C (c2 C Z S O P) (by decide) (by decide) w0 w g hS),
      RS.StepOK.load 35 (.agg #[.bool C, .bool Z, .bool S, .bool O, .bool P]) (by kernel_rfl) (by kernel_rfl) rfl (fun w hS => load27 w _ ⟨_, []⟩ rfl g rfl (by kernel_rfl) hS.1.1),
      RS.StepOK.call 36 12 #[.agg #[.bool C, .bool Z, .bool S, .bool O, .bool P], .int .u8 4] (.bool Z) (by kernel_rfl) (by kernel_rfl) rfl (fun w => by kernel_rfl) (fun w hS => cond_k C Z S O P 4 Z (c4 C Z S O P) (by decide) (by decide) w0 w g hS),
      RS.StepOK.load 37 (.agg #[.bool C, .bool Z, .bool S, .bool O, .bool P]) (by kernel_rfl) (by kernel_rfl) rfl (fun w hS => load27 w _ ⟨_, []⟩ rfl g rfl (by kernel_rfl) hS.1.1),
      RS.StepOK.call 38 12 #[.agg #[.bool C, .bool Z, .bool S, .bool O, .bool P], .int .u8 12] (.bool (S != O)) (by kernel_rfl) (by kernel_rfl) rfl (fun w => by kernel_rfl) (fun w hS => cond_k C Z S O P 12 (S != O) (c12 C Z S O P) (by decide) (by decide) w0 w g hS),
      RS.StepOK.pure 5 (by kernel_rfl) rfl (fun w => by kernel_rfl),
      RS.StepOK.pure 6 (by kernel_rfl) rfl (fun w => by kernel_rfl),
      RS.StepOK.pure 7 (by kernel_rfl) rfl (fun w => by kernel_rfl), trivial⟩
  rintro w3 ⟨hs, hb⟩
  clear HS HB
  have HS := Aside0.mk hs
  have HB := Aside0.mk hb
  clear hs hb
  unfold cdT3
  go_upto_region 4 with (fail)
  refine RS.wp_settled (by kernel_rfl) (cdT4 C Z S O P c a g) (fun V => CcS g C Z S O P V ∧ Below w0.heap.size w0 V) ([(39, .agg #[.bool C, .bool Z, .bool S, .bool O, .bool P]), (40, .bool (C || Z)), (41, .bool C), (42, .bool C), (43, (bif C then undef else .bool Z)), (44, .bool (C || Z)), (45, .bool true), (46, .bool true), (47, .agg #[.bool C, .bool Z, .bool S, .bool O, .bool P]), (48, .bool ((S != O) || Z)), (49, .bool (S != O)), (50, .bool (S != O)), (51, (bif (S != O) then undef else .bool Z)), (52, .bool ((S != O) || Z)), (53, .bool true), (54, .bool true), (55, .bool true), (56, .bool (S != O)), (57, .agg #[.bool C, .bool Z, .bool S, .bool O, .bool P]), (58, .bool S), (59, .agg #[.bool C, .bool Z, .bool S, .bool O, .bool P]), (60, .bool O), (61, .bool (S != O)), (62, .bool true), (63, .bool true), (64, .bool true), (65, .int .u8 c), (66, .agg #[.bool (Go.bits .and .u8 c 1 != 0), .bool (Go.bits .and .u8 c 64 != 0), .bool (Go.bits .and .u8 c 128 != 0), .bool (Go.bits .and .u8 c 8 != 0), .bool (Go.bits .and .u8 c 4 != 0)]), (67, .int .u8 (packOf c)), (68, .int .u8 c), (69, .int .u8 0), (70, .bool true), (71, .bool true), (72, .bool true), (73, .bool true), (74, .bool true), (4, .bool true)]) (by kernel_rfl) (by kernel_rfl) (by kernel_rfl) ⟨HS.out, bW_ HB.out 1⟩ ?_ ?_
  · exact ⟨RS.StepOK.load 39 (.agg #[.bool C, .bool Z, .bool S, .bool O, .bool P]) (by kernel_rfl) (by kernel_rfl) rfl (fun w hS => load27 w _ ⟨_, []⟩ rfl g rfl (by kernel_rfl) hS.1.1),
      RS.StepOK.call 40 12 #[.agg #[.bool C, .bool Z, .bool S, .bool O, .bool P], .int .u8 6] (.bool (C || Z)) (by kernel_rfl) (by kernel_rfl) rfl (fun w => by kernel_rfl) (fun w hS => cond_k C Z S O P 6 (C || Z) (c6 C Z S O P) (by decide) (by decide) w0 w g hS),
      RS.StepOK.pure 41 (by kernel_rfl) rfl (fun w => by kernel_rfl),
      RS.StepOK.pure 42 (by kernel_rfl) rfl (fun w => by kernel_rfl),
      (by cases C; exact RS.StepOK.pure 43 (by kernel_rfl) rfl (fun w => by kernel_rfl); exact RS.StepOK.off 43 (by kernel_rfl) rfl (by kernel_rfl)),
      (by cases C <;> exact RS.StepOK.pure 44 (by kernel_rfl) rfl (fun w => by kernel_rfl)),
      (by cases C <;> cases Z <;> exact RS.StepOK.pure 45 (by kernel_rfl) rfl (fun w => by kernel_rfl)),
      RS.StepOK.pure 46 (by kernel_rfl) rfl (fun w => by kernel_rfl),
      RS.StepOK.load 47 (.agg #[.bool C, .bool Z, .bool S, .bool O, .bool P]) (by kernel_rfl) (by kernel_rfl) rfl (fun w hS => load27 w _ ⟨_, []⟩ rfl g rfl (by kernel_rfl) hS.1.1),
      RS.StepOK.call 48 12 #[.agg #[.bool C, .bool Z, .bool S, .bool O, .bool P], .int .u8 14] (.bool ((S != O) || Z)) (by kernel_rfl) (by kernel_rfl) rfl (fun w => by kernel_rfl) (fun w hS => cond_k C Z S O P 14 ((S != O) || Z) (c14 C Z S O P) (by decide) (by decide) w0 w g hS),
      RS.StepOK.pure 49 (by kernel_rfl) rfl (fun w => by kernel_rfl),
      RS.StepOK.pure 50 (by kernel_rfl) rfl (fun w => by kernel_rfl),
      (by cases S <;> cases O; exact RS.StepOK.pure 51 (by kernel_rfl) rfl (fun w => by kernel_rfl); exact RS.StepOK.off 51 (by kernel_rfl) rfl (by kernel_rfl); exact RS.StepOK.off 51 (by kernel_rfl) rfl (by kernel_rfl); exact RS.StepOK.pure 51 (by kernel_rfl) rfl (fun w => by kernel_rfl)),
      (by cases S <;> cases O <;> exact RS.StepOK.pure 52 (by kernel_rfl) rfl (fun w => by kernel_rfl)),
      (by cases S <;> cases O <;> cases Z <;> exact RS.StepOK.pure 53 (by kernel_rfl) rfl (fun w => by kernel_rfl)),
      RS.StepOK.pure 54 (by kernel_rfl) rfl (fun w => by kernel_rfl),
      RS.StepOK.pure 55 (by kernel_rfl) rfl (fun w => by kernel_rfl),
      RS.StepOK.pure 56 (by kernel_rfl) rfl (fun w => by kernel_rfl),
      RS.StepOK.load 57 (.agg #[.bool C, .bool Z, .bool S, .bool O, .bool P]) (by kernel_rfl) (by kernel_rfl) rfl (fun w hS => load27 w _ ⟨_, []⟩ rfl g rfl (by kernel_rfl) hS.1.1),
      RS.StepOK.call 58 12 #[.agg #[.bool C, .bool Z, .bool S, .bool O, .bool P], .int .u8 8] (.bool S) (by kernel_rfl) (by kernel_rfl) rfl (fun w => by kernel_rfl) (fun w hS => cond_k C Z S O P 8 S (c8 C Z S O P) (by decide) (by decide) w0 w g hS),
      RS.StepOK.load 59 (.agg #[.bool C, .bool Z, .bool S, .bool O, .bool P]) (by kernel_rfl) (by kernel_rfl) rfl (fun w hS => load27 w _ ⟨_, []⟩ rfl g rfl (by kernel_rfl) hS.1.1),
      RS.StepOK.call 60 12 #[.agg #[.bool C, .bool Z, .bool S, .bool O, .bool P], .int .u8 0] (.bool O) (by kernel_rfl) (by kernel_rfl) rfl (fun w => by kernel_rfl) (fun w hS => cond_k C Z S O P 0 O (c0 C Z S O P) (by decide) (by decide) w0 w g hS),
      (by cases S <;> cases O <;> exact RS.StepOK.pure 61 (by kernel_rfl) rfl (fun w => by kernel_rfl)),
      (by cases S <;> cases O <;> exact RS.StepOK.pure 62 (by kernel_rfl) rfl (fun w => by kernel_rfl)),
      RS.StepOK.pure 63 (by kernel_rfl) rfl (fun w => by kernel_rfl),
      RS.StepOK.pure 64 (by kernel_rfl) rfl (fun w => by kernel_rfl),
      RS.StepOK.pure 65 (by kernel_rfl) rfl (fun w => by kernel_rfl),
      RS.StepOK.call 66 13 #[.int .u8 c] (.agg #[.bool (Go.bits .and .u8 c 1 != 0), .bool (Go.bits .and .u8 c 64 != 0), .bool (Go.bits .and .u8 c 128 != 0), .bool (Go.bits .and .u8 c 8 != 0), .bool (Go.bits .and .u8 c 4 != 0)]) (by kernel_rfl) (by kernel_rfl) rfl (fun w => by kernel_rfl) (fun w hS => keepS hS (unpacked_calls c w)),
      RS.StepOK.call 67 14 #[.agg #[.bool (Go.bits .and .u8 c 1 != 0), .bool (Go.bits .and .u8 c 64 != 0), .bool (Go.bits .and .u8 c 128 != 0), .bool (Go.bits .and .u8 c 8 != 0), .bool (Go.bits .and .u8 c 4 != 0)]] (.int .u8 (packOf c)) (by kernel_rfl) (by kernel_rfl) rfl (fun w => by kernel_rfl) (fun w hS => keepS hS (packed_of c w)),
      RS.StepOK.pure 68 (by kernel_rfl) rfl (fun w => by kernel_rfl),
      RS.StepOK.load 69 (.int .u8 0) (by kernel_rfl) (by kernel_rfl) rfl (fun w hS => by rw [← pack_of c h0 h1]; kernel_rfl),
      RS.StepOK.pure 70 (by kernel_rfl) rfl (fun w => by kernel_rfl),
      RS.StepOK.pure 71 (by kernel_rfl) rfl (fun w => by kernel_rfl),
      RS.StepOK.pure 72 (by kernel_rfl) rfl (fun w => by kernel_rfl),
      RS.StepOK.call 73 6 #[] (.bool true) (by kernel_rfl) (by kernel_rfl) rfl (fun w => by kernel_rfl) (fun w hS => keepS hS (wakes_calls w hS.1.2)),
      RS.StepOK.pure 74 (by kernel_rfl) rfl (fun w => by kernel_rfl),
      RS.StepOK.pure 4 (by kernel_rfl) rfl (fun w => by kernel_rfl), trivial⟩
  rintro w4 ⟨hs, hb⟩
  clear HS HB
  have HS := Aside0.mk hs
  have HB := Aside0.mk hb
  clear hs hb
  unfold cdT4
  go_wp2_with fail
  go_ret
  exact ⟨rfl, HB.out⟩
end Go.Proofs.YtpmclnlgipphmaaDoor.B
namespace Go.Proofs.YtpmclnlgipphmaaDoor.B
open Go.RowKit Go.ChangeShapes Go.WideShapes Go.ChangeAt
set_option linter.unusedVariables false
theorem globalHolds : Tryd.prog.globalNamed "sundial/cpu.holds" = some 0 := by kernel_rfl
theorem typeHolds : (Tryd.prog.globals[0]?).map (·.type) = some 54 := by kernel_rfl
theorem tableHolds : Tryd.prog.underlying 54 = some (.array 8 53) := by kernel_rfl
theorem cellsHolds : Tryd.prog.cellsOf 53 = 1 := by kernel_rfl
theorem cellsTable : Tryd.prog.cellsOf 54 = 8 := by kernel_rfl
theorem door_met (os : Os) (args : Array Value) : laidMetH Tryd.prog [("sundial/cpu.holds", Rows.laid_sundial_cpu_holds)] ((World.doorLaid Tryd.prog 600 os).forCall (fun _ _ => 0) ⟨#[], args, []⟩).memory :=
  laidMetH_of_parts3 (fuel := 8) (laidMet_of_run' 8 (by kernel_rfl) (by kernel_rfl)) (by kernel_rfl) (by kernel_rfl)
def heldNames : List (DataW (List UInt8)) := [.held [115, 117, 110, 100, 105, 97, 108, 47, 99, 112, 117, 46, 104, 111, 108, 100, 115, 36, 49], .held [115, 117, 110, 100, 105, 97, 108, 47, 99, 112, 117, 46, 104, 111, 108, 100, 115, 36, 50], .held [115, 117, 110, 100, 105, 97, 108, 47, 99, 112, 117, 46, 104, 111, 108, 100, 115, 36, 51], .held [115, 117, 110, 100, 105, 97, 108, 47, 99, 112, 117, 46, 104, 111, 108, 100, 115, 36, 52], .held [115, 117, 110, 100, 105, 97, 108, 47, 99, 112, 117, 46, 104, 111, 108, 100, 115, 36, 53], .held [115, 117, 110, 100, 105, 97, 108, 47, 99, 112, 117, 46, 104, 111, 108, 100, 115, 36, 54], .held [115, 117, 110, 100, 105, 97, 108, 47, 99, 112, 117, 46, 104, 111, 108, 100, 115, 36, 55], .held [115, 117, 110, 100, 105, 97, 108, 47, 99, 112, 117, 46, 104, 111, 108, 100, 115, 36, 56]]
theorem laid_of {W : World} (h : laidMetH Tryd.prog [("sundial/cpu.holds", Rows.laid_sundial_cpu_holds)] W) : Tab W := by
  obtain ⟨g, t, cs, fuel, p, hg, ht, hv, hd⟩ := h.funcs (List.mem_singleton.2 rfl)
  obtain rfl := Option.some.inj (globalHolds.symm.trans hg)
  obtain rfl := Option.some.inj (typeHolds.symm.trans ht)
  have hd' : DataW.trod (funcToken Tryd.prog) Tryd.prog W 0 (fun _ => true) true fuel 54 cs.toList = some (.agg heldNames, p) := hd
  obtain ⟨xs, n, rfl, hx, hcl, hxl, hF⟩ := DataW.trod_array tableHolds hd'
  injection hx with hx1 _
  injection hx1 with hx1
  rw [cellsTable] at hcl
  have key : ∀ (i : Nat) (b : UInt8) (r : List UInt8) (f0 : Nat), i < 8 → heldNames[i]? = some (.held (b :: r)) → ((List.range Tryd.prog.funcs.size).filter fun f => (Tryd.prog.funcs[f]?).any (·.name.toUTF8.data.toList == b :: r)) = [f0] →
      W.cell? ⟨0, i, none⟩ = some (.func (.func f0) #[] #[]) := by
    intro i b r f0 hi hn hone
    have hi2 : i < cs.toList.length := by omega
    have h1 := hF i hi
    rw [cellsHolds, Nat.mul_one] at h1
    have hdrop : (cs.toList.drop i).take 1 = [cs.toList[i]] := by
      rw [List.drop_eq_getElem_cons hi2]; rfl
    rw [hdrop] at h1
    have hxi : xs[i]? = some xs[i] := List.getElem?_eq_getElem (by omega)
    rw [hxi] at h1
    have hq : xs[i].1 = .held (b :: r) := by
      rw [hx1, List.getElem?_map, hxi] at hn
      simpa using hn
    have h2 : DataW.trod (funcToken Tryd.prog) Tryd.prog W 0 (fun _ => true) true n 53 [cs.toList[i]] = some (.held (b :: r), xs[i].2) := by rw [h1, ← hq]
    have h3 := func_of_trod Tryd.underlying53 hone h2
    have h4 := World.var?_cell hg hv i
    rw [h4]
    rw [Array.getElem_toList] at h3
    rw [Array.getElem?_eq_getElem (by simpa using hi2), h3]
  exact ⟨key 0 _ _ 41 (by decide) rfl (by kernel_rfl), key 1 _ _ 42 (by decide) rfl (by kernel_rfl), key 2 _ _ 43 (by decide) rfl (by kernel_rfl), key 3 _ _ 44 (by decide) rfl (by kernel_rfl), key 4 _ _ 45 (by decide) rfl (by kernel_rfl), key 5 _ _ 46 (by decide) rfl (by kernel_rfl), key 6 _ _ 47 (by decide) rfl (by kernel_rfl), key 7 _ _ 48 (by decide) rfl (by kernel_rfl)⟩
theorem st_flags {H : Type} {enc : TypeId × Value → H} {w : World} {base : Nat} {spare : Nat → Bool} {held : Bool} {v : Value} {d : DataW H} {ps : List MemPlace} (hv : ∃ cs, v = .agg cs ∧ cs.size = Tryd.prog.cellsOf 27) (h : DataW.Trod enc Tryd.prog w base spare held 27 v d ps) :
    ∃ C Z S O P, v = .agg #[.bool C, .bool Z, .bool S, .bool O, .bool P] ∧ True := by
  obtain ⟨⟨cs⟩, rfl, hsz⟩ := hv
  have hsz' : cs.length = 5 := hsz
  obtain ⟨fuel, hf⟩ := h
  obtain ⟨xs, n, rfl, _, hcl, hxl, hF⟩ := DataW.trod_struct Tryd.underlying27 hf
  have hxl' : xs.length = 5 := hxl
  match cs, hsz', xs, hxl' with
  | [v0, v1, v2, v3, v4], _, [y0, y1, y2, y3, y4], _ =>
    have g0 : DataW.trod enc Tryd.prog w base spare held n 4 [v0] = some y0 := hF 0 _ rfl
    have g1 : DataW.trod enc Tryd.prog w base spare held n 4 [v1] = some y1 := hF 1 _ rfl
    have g2 : DataW.trod enc Tryd.prog w base spare held n 4 [v2] = some y2 := hF 2 _ rfl
    have g3 : DataW.trod enc Tryd.prog w base spare held n 4 [v3] = some y3 := hF 3 _ rfl
    have g4 : DataW.trod enc Tryd.prog w base spare held n 4 [v4] = some y4 := hF 4 _ rfl
    obtain ⟨a, ha, _⟩ := DataW.trod_bool Tryd.underlying4 g0
    obtain ⟨b, hb, _⟩ := DataW.trod_bool Tryd.underlying4 g1
    obtain ⟨c, hc, _⟩ := DataW.trod_bool Tryd.underlying4 g2
    obtain ⟨e, he, _⟩ := DataW.trod_bool Tryd.underlying4 g3
    obtain ⟨f, hf', _⟩ := DataW.trod_bool Tryd.underlying4 g4
    injection ha with ha; injection hb with hb; injection hc with hc; injection he with he; injection hf' with hf'
    subst ha; subst hb; subst hc; subst he; subst hf'
    exact ⟨a, b, c, e, f, rfl, trivial⟩
end Go.Proofs.YtpmclnlgipphmaaDoor.B
namespace Go.Proofs.YtpmclnlgipphmaaDoor.B
open Go.RowKit
theorem wf_u8 {x : Int} (h : (Lit.int .u8 x).wf = true) : 0 ≤ x ∧ x < 256 := by
  have h' : IntKind.u8.min ≤ x ∧ x ≤ IntKind.u8.max := by simpa [Lit.wf] using h
  have e1 : IntKind.u8.min = 0 := rfl
  have e2 : IntKind.u8.max = 255 := rfl
  omega
def sundiallaw14_CpuConds.f (_C _Z _S _O _P : Bool) (c : Int) : Option Bool := if 0 ≤ c ∧ c < 256 then some true else none
theorem sundiallaw14_CpuConds.calls (C Z S O P : Bool) (c : Int) (r : Bool) (w : World) (hT : Tab w) (h : sundiallaw14_CpuConds.f C Z S O P c = some r) :
    Calls Tryd.prog 5 #[.agg #[.bool C, .bool Z, .bool S, .bool O, .bool P], .int .u8 c] w fun e w' => e = .returned (.bool r) ∧ Below w.heap.size w w' := by
  unfold sundiallaw14_CpuConds.f at h
  by_cases hc : 0 ≤ c ∧ c < 256
  · rw [if_pos hc] at h
    obtain rfl := Option.some.inj h
    exact conds_calls C Z S O P c w hT hc.1 hc.2
  · rw [if_neg hc] at h
    cases h
theorem Pure.CpuConds (C Z S O P : Bool) (c : Int) (_ : True) (w1 : (Lit.int .u8 c).wf = true) : sundiallaw14_CpuConds.f C Z S O P c = some true := if_pos (wf_u8 w1)
end Go.Proofs.YtpmclnlgipphmaaDoor.B
namespace Go.Proofs.YtpmclnlgipphmaaDoor.cpuConds
open Go.ChangeShapes Go.WideShapes Go.ChangeAt Go.RowKit
open Go.Proofs.YtpmclnlgipphmaaDoorW.PrintWords
set_option linter.unusedVariables false
theorem own : ownKnob Tryd.prog.godebug = none := by kernel_rfl
theorem laidOut : laidOutB Tryd.prog = true := by kernel_rfl
set_option maxRecDepth 100000 in
theorem lifted (os : Os) (started : os.Started) (H : Type) (enc : TypeId × Value → H) :
    ReturnsInHanded {} Tryd.checked os 5 .any (fun w args => (Rows.cpuCondsSpec.pre enc Tryd.prog Tryd.f5 [] false w args ∧ laidMetH Tryd.prog Rows.cpuCondsRow.laid w) ∧ sizedMet enc Tryd.prog Tryd.f5 (OpenSpec.ofChange Rows.cpuCondsSpec) false w args) (Rows.cpuCondsSpec.post enc Tryd.prog Tryd.f5 false true false false) := by
  refine returnsInHanded_of_change_and (C := Tryd.checked) (X := fun w _ => laidMetH Tryd.prog Rows.cpuCondsRow.laid w) (fun _ _ _ hh h => h.of_heap hh) own started (by kernel_rfl) Tryd.func5
    (ChangeSpec.witness_shaped (enc := enc) (C := Tryd.checked) (os := os) (X := fun w _ => laidMetH Tryd.prog Rows.cpuCondsRow.laid w) false (World.doorLaid Tryd.prog 600 os) #[.agg #[.bool false, .bool false, .bool false, .bool false, .bool false], .int .u8 0] 8 rfl (World.shaped_of_RefB (by kernel_rfl) (by kernel_rfl)) (by kernel_rfl) (by kernel_rfl) (by kernel_rfl) (Go.Proofs.YtpmclnlgipphmaaDoor.B.door_met os _)) ?_
  intro W base args ds gs before hval0 hW hcnd hsz0 hL _
  have hval : ∀ (j : Nat) t v, Tryd.f5.params[j]? = some t → args[j]? = some v → Value.okWide Tryd.prog W .any base t v := hval0
  have hW' := hW
  obtain ⟨p, q, hA0, hV, rfl, hfz, hnd⟩ := hW
  have hA : DataW.TrodAll enc Tryd.prog W 0 (fun _ => true) true Tryd.f5.params.toList args.toList ds p := hA0
  rw [Tryd.params5] at hA hval
  obtain ⟨v0, vs0, d0, ds0, p0, q0, hargs, rfl, rfl, h0, r0⟩ := trodAll_cons hA
  obtain ⟨v1, vs1, d1, ds1, p1, q1, rfl, rfl, rfl, h1, r1⟩ := trodAll_cons r0
  obtain ⟨rfl, rfl, rfl⟩ := trodAll_nil r1
  obtain rfl : args = #[v0, v1] := by cases args; simp_all
  obtain ⟨rfl, rfl⟩ := trodVars_none hV
  have e0 := okWide_struct Tryd.underlying27 (hval 0 27 v0 rfl rfl)
  have k0 := h0
  have lt0 : ∀ x ∈ p0, x.block < W.heap.size := by obtain ⟨m, hm⟩ := k0; exact DataW.trod_lt m _ _ _ hm
  obtain ⟨a0_0, a0_1, a0_2, a0_3, a0_4, rfl, hg0⟩ := Go.Proofs.YtpmclnlgipphmaaDoor.B.st_flags e0 h0
  obtain ⟨a1, rfl, rfl, rfl, w1⟩ := open_int Tryd.underlying5 (hval 1 5 v1 rfl rfl) h1
  clear hA0 hval0 hsz0
  have h := Go.Proofs.YtpmclnlgipphmaaDoor.B.Pure.CpuConds a0_0 a0_1 a0_2 a0_3 a0_4 a1 hg0 w1
  refine (Go.Proofs.YtpmclnlgipphmaaDoor.B.sundiallaw14_CpuConds.calls a0_0 a0_1 a0_2 a0_3 a0_4 a1 true W (Go.Proofs.YtpmclnlgipphmaaDoor.B.laid_of hL) h).mono ?_
  rintro e W' ⟨rfl, bel⟩
  exact ⟨_, rfl, _, _, _, [], _, [], hW', trodAll_mk1 (shut_bool Tryd.underlying4 _), (trodAll_cons_mk (Below.trod laidOut (by kernel_rfl) (of_decide_eq_true (by kernel_rfl)) k0 bel lt0) (trodAll_cons_mk (shut_int Tryd.underlying5 w1) trodAll_mk0)), rfl, bel.frame _, fun h => by cases h⟩
theorem over : Rows.cpuCondsRow.holds Tryd.pinned (OpenSpec.ofChange Rows.cpuCondsSpec) :=
  OpenClaim.holds_of_wide 5 Tryd.f5 rfl rfl rfl rfl rfl rfl rfl ⟨rfl, rfl, rfl, rfl, rfl⟩ rfl rfl rfl rfl rfl (by kernel_rfl) Tryd.func5 (by kernel_rfl)
    (of_decide_eq_true (by kernel_rfl)) (by unfold Func.isWrapper; first | (rw [if_pos (by decide +kernel)]; kernel_rfl) | (rw [if_neg (by decide +kernel)]; exact ⟨rfl, rfl⟩))
    (fun os started H enc _ => lifted os started H enc)
theorem proved : Rows.CpuCondsSaid := over
theorem card : Rows.CpuCondsCardSaid :=
  Claim7.holds_tied_plain_at .later [] [.funcs] true (true, "e9ee359ac8cb1a941a1d8ff47a9105931ca34af6fdbdabfa8a7145b435610fd2") false proved (fun _ h => by cases h) (by kernel_rfl) (fun _ h => by cases h) cpuConds_row_tie rfl ⟨rfl, rfl⟩ (by kernel_rfl) rfl
    (fun f fn hf hfn => by
      obtain rfl : f = 5 := Option.some.inj ((show Tryd.prog.funcNamed Rows.cpuCondsRow.func = some 5 by kernel_rfl).symm.trans hf) |>.symm
      obtain rfl : fn = Tryd.f5 := (Option.some.inj (Tryd.func5.symm.trans hfn)).symm
      exact ⟨by kernel_rfl, fun j t ht => by
        rw [Tryd.params5] at ht
        have hm : t ∈ [27, 5] := by simpa using Array.mem_of_getElem? ht
        have hall : ([27, 5].all fun u => !Tryd.prog.wantsStandIn u) = true := by kernel_rfl
        exact (show Tryd.prog.wantsStandIn t = false by simpa using List.all_eq_true.1 hall t hm)⟩)
    (by kernel_rfl)
#print axioms card
end Go.Proofs.YtpmclnlgipphmaaDoor.cpuConds
namespace Go.Proofs.YtpmclnlgipphmaaDoor
theorem cpuConds_holds : Rows.CpuCondsCardSaid := cpuConds.card
end Go.Proofs.YtpmclnlgipphmaaDoor
