/- What the printed texts are given: contracts of operand.Take, operand.Uses, and of operand.Put at one constant operand (the claim that stands on this text calls it there alone). -/
import Derived.Test.YtppeidopijnnlaaDoorTake
import Derived.Test.YtppeidopijnnlaaDoorUses
import Derived.Test.YtppeidopijnnlaaDoorPut1
namespace Go.Proofs.YtppeidopijnnlaaDoor.B
open Go.RowKit Go.Proofs.YtppeidopijnnlaaDoorW.PrintWords Go.Proofs.YtppeidopijnnlaaDoorW.PrintMore Go.RF
set_option linter.unusedVariables false
def takeO (l0 : List Int) (a1 : Int) : Option TakeT := if (∀ y ∈ l0, 0 ≤ y ∧ y < 256) ∧ 0 ≤ a1 ∧ a1 < 256 then some (takeF l0 a1) else none
/-- takeO, chosen: nothing reckons it by chance -/
noncomputable def G.Take : List Int → Int → Option TakeT := Classical.choose (⟨takeO, rfl⟩ : ∃ f : List Int → Int → Option TakeT, f = takeO)
theorem G.Take_eq : G.Take = takeO := Classical.choose_spec (⟨takeO, rfl⟩ : ∃ f : List Int → Int → Option TakeT, f = takeO)
theorem G.Take_calls (A0 : Option Addr) (c0 : Nat) (l0 : List Int) (a1 : Int) (r1 : Int) (r2 : Int) (r3 : Int) (r4 : Int) (r5 : Int) (r6 : Int) (r7 : Int) (r8 : Bool) (r9 : Int) (r10 : Int) (r11 : Int) (w : World) (hr0 : Kd.C (Kd.int .u8) w A0 l0.length l0) (hc0 : l0.length ≤ c0) (h : G.Take l0 a1 = some (r1, r2, r3, r4, r5, r6, r7, r8, r9, r10, r11)) :
    Calls Tryd.prog 11 #[.slice A0 l0.length c0, .int .u8 a1] w fun e w' => e = .returned (.tuple #[.int .i64 r1, .agg #[.int .u8 r2, .int .i64 r3, .int .i64 r4, .int .i64 r5, .int .i64 r6, .int .i64 r7, .bool r8, .int .i64 r9], .int .i64 r10, .int .i64 r11]) ∧ Below w.heap.size w w' := by
  rw [G.Take_eq] at h
  unfold takeO at h
  by_cases hp : (∀ y ∈ l0, 0 ≤ y ∧ y < 256) ∧ 0 ≤ a1 ∧ a1 < 256
  · rw [if_pos hp] at h
    exact take_calls A0 c0 l0 a1 r1 r2 r3 r4 r5 r6 r7 r8 r9 r10 r11 w hr0 hc0 hp.1 hp.2 (Option.some.inj h)
  · rw [if_neg hp] at h
    cases h
def usesO (a0 a1 a2 a3 a4 a5 : Int) (a6 : Bool) (a7 : Int) : Option (List Int) := some (regL a0 a2 a3 0)
noncomputable def G.Uses : Int → Int → Int → Int → Int → Int → Bool → Int → Option (List Int) := Classical.choose (⟨usesO, rfl⟩ : ∃ f : Int → Int → Int → Int → Int → Int → Bool → Int → Option (List Int), f = usesO)
theorem G.Uses_eq : G.Uses = usesO := Classical.choose_spec (⟨usesO, rfl⟩ : ∃ f : Int → Int → Int → Int → Int → Int → Bool → Int → Option (List Int), f = usesO)
theorem G.Uses_calls (a0_0 : Int) (a0_1 : Int) (a0_2 : Int) (a0_3 : Int) (a0_4 : Int) (a0_5 : Int) (a0_6 : Bool) (a0_7 : Int) (r : List Int) (w : World) (h : G.Uses a0_0 a0_1 a0_2 a0_3 a0_4 a0_5 a0_6 a0_7 = some r) :
    Calls Tryd.prog 17 #[.agg #[.int .u8 a0_0, .int .i64 a0_1, .int .i64 a0_2, .int .i64 a0_3, .int .i64 a0_4, .int .i64 a0_5, .bool a0_6, .int .i64 a0_7]] w fun e w' => ∃ v0_ : Value, e = .returned (v0_) ∧ Kd.R (Kd.int .i64) 3 w' w.heap.size (fun _ => True) v0_ r ∧ Below w.heap.size w w' := by
  rw [G.Uses_eq] at h
  obtain rfl := Option.some.inj h
  exact uses_calls a0_0 a0_1 a0_2 a0_3 a0_4 a0_5 a0_7 a0_6 w
/-- operand.Put at the one operand that is known -/
def putO (a0 : Int) (a1_0 : Int) (a1_1 : Int) (a1_2 : Int) (a1_3 : Int) (a1_4 : Int) (a1_5 : Int) (a1_6 : Bool) (a1_7 : Int) : Option (List Int × Int × Int) :=
  if a0 = 9 ∧ a1_0 = 2 ∧ a1_1 = 0 ∧ a1_2 = 4 ∧ a1_3 = -1 ∧ a1_4 = 1 ∧ a1_5 = 8 ∧ a1_6 = false ∧ a1_7 = 0 then some ([76, 36, 8], 4, 0) else none
noncomputable def G.Put : Int → Int → Int → Int → Int → Int → Int → Bool → Int → Option (List Int × Int × Int) := Classical.choose (⟨putO, rfl⟩ : ∃ f : Int → Int → Int → Int → Int → Int → Int → Bool → Int → Option (List Int × Int × Int), f = putO)
theorem G.Put_eq : G.Put = putO := Classical.choose_spec (⟨putO, rfl⟩ : ∃ f : Int → Int → Int → Int → Int → Int → Int → Bool → Int → Option (List Int × Int × Int), f = putO)
theorem G.Put_calls (a0 : Int) (a1_0 : Int) (a1_1 : Int) (a1_2 : Int) (a1_3 : Int) (a1_4 : Int) (a1_5 : Int) (a1_6 : Bool) (a1_7 : Int) (r1 : List Int) (r2 : Int) (r3 : Int) (w : World) (h : G.Put a0 a1_0 a1_1 a1_2 a1_3 a1_4 a1_5 a1_6 a1_7 = some (r1, r2, r3)) :
    Calls Tryd.prog 9 #[.int .i64 a0, .agg #[.int .u8 a1_0, .int .i64 a1_1, .int .i64 a1_2, .int .i64 a1_3, .int .i64 a1_4, .int .i64 a1_5, .bool a1_6, .int .i64 a1_7]] w fun e w' => ∃ v0_ : Value, e = .returned (.tuple #[v0_, .int .u8 r2, .int .i64 r3]) ∧ Kd.R (Kd.int .u8) 5 w' w.heap.size (fun _ => True) v0_ r1 ∧ Below w.heap.size w w' := by
  rw [G.Put_eq] at h
  unfold putO at h
  by_cases hp : a0 = 9 ∧ a1_0 = 2 ∧ a1_1 = 0 ∧ a1_2 = 4 ∧ a1_3 = -1 ∧ a1_4 = 1 ∧ a1_5 = 8 ∧ a1_6 = false ∧ a1_7 = 0
  · rw [if_pos hp] at h
    have h := Option.some.inj h
    simp only [Prod.mk.injEq] at h
    obtain ⟨rfl, rfl, rfl⟩ := h
    obtain ⟨rfl, rfl, rfl, rfl, rfl, rfl, rfl, rfl, rfl⟩ := hp
    exact put1_calls w
  · rw [if_neg hp] at h
    cases h
/-! what the law's check at constants comes to -/
theorem wkConv {W : World} {b : Nat} {ok : Nat → Prop} {v : Value} {xs : List Int} (h : Kd.R (Kd.int .u8) 5 W b ok v xs) : (convert 24 9 v).run Tryd.prog W = .ok (.string (strOfNums xs)) W := by
  obtain ⟨A, c, rfl⟩ := Kd.R_slice h
  exact Kd.C_string Tryd.underlying24 Tryd.underlying5 Tryd.underlying9 (Kd.R_reads' h).2.2
theorem take_c1 : takeO [193] 0 = some (0, 1, 1, -1, -1, 0, 0, false, 0, 1, 0) := by kernel_rfl
theorem take_c2 : takeO [68, 36, 8, 99] 0 = some (0, 2, 0, 4, -1, 1, 8, false, 0, 3, 0) := by kernel_rfl
theorem take_c3 : takeO [] 0 = some (0, 0, 0, 0, 0, 0, 0, false, 0, 0, 80) := by kernel_rfl
theorem wkT1 {y : List Int} {t1 t2 t3 t4 t5 t6 t7 t9 t10 t11 : Int} {t8 : Bool} (hy : y = [193]) (h : G.Take y 0 = some (t1, t2, t3, t4, t5, t6, t7, t8, t9, t10, t11)) : t1 = 0 ∧ t2 = 1 ∧ t3 = 1 ∧ t4 = -1 ∧ t5 = -1 ∧ t6 = 0 ∧ t7 = 0 ∧ t8 = false ∧ t9 = 0 ∧ t10 = 1 ∧ t11 = 0 := by
  subst hy
  rw [G.Take_eq, take_c1] at h
  have h := Option.some.inj h
  simp only [Prod.mk.injEq] at h
  obtain ⟨rfl, rfl, rfl, rfl, rfl, rfl, rfl, rfl, rfl, rfl, rfl⟩ := h
  exact ⟨rfl, rfl, rfl, rfl, rfl, rfl, rfl, rfl, rfl, rfl, rfl⟩
theorem wkT2 {y : List Int} {t1 t2 t3 t4 t5 t6 t7 t9 t10 t11 : Int} {t8 : Bool} (hy : y = [68, 36, 8, 99]) (h : G.Take y 0 = some (t1, t2, t3, t4, t5, t6, t7, t8, t9, t10, t11)) : t1 = 0 ∧ t2 = 2 ∧ t3 = 0 ∧ t4 = 4 ∧ t5 = -1 ∧ t6 = 1 ∧ t7 = 8 ∧ t8 = false ∧ t9 = 0 ∧ t10 = 3 ∧ t11 = 0 := by
  subst hy
  rw [G.Take_eq, take_c2] at h
  have h := Option.some.inj h
  simp only [Prod.mk.injEq] at h
  obtain ⟨rfl, rfl, rfl, rfl, rfl, rfl, rfl, rfl, rfl, rfl, rfl⟩ := h
  exact ⟨rfl, rfl, rfl, rfl, rfl, rfl, rfl, rfl, rfl, rfl, rfl⟩
theorem wkP {a0 a1 a2 a3 a4 a5 a6 a8 : Int} {a7 : Bool} {r1 : List Int} {r2 r3 : Int} (h : G.Put a0 a1 a2 a3 a4 a5 a6 a7 a8 = some (r1, r2, r3)) : r1 = [76, 36, 8] ∧ r2 = 4 ∧ r3 = 0 := by
  rw [G.Put_eq] at h
  unfold putO at h
  split at h
  · have h := Option.some.inj h
    simp only [Prod.mk.injEq] at h
    exact ⟨h.1.symm, h.2.1.symm, h.2.2.symm⟩
  · cases h
theorem wkC16 {a0 a1 a2 a3 a4 a5 a6 a8 : Int} {a7 : Bool} {r1 : List Int} {r2 r3 : Int} (h : G.Put a0 a1 a2 a3 a4 a5 a6 a7 a8 = some (r1, r2, r3)) : (strOfNums r1).toList = ([76, 36, 8] : List UInt8) := by
  rw [(wkP h).1]
  first | kernel_rfl | decide | simp [strOfNums]
theorem wkC8 {y : List Int} {t1 t2 t3 t4 t5 t6 t7 t9 t10 t11 : Int} {t8 : Bool} {s1 s2 s3 s4 s5 s6 s8 : Int} {s7 : Bool} (hy : y = [193]) (h : G.Take y 0 = some (t1, t2, t3, t4, t5, t6, t7, t8, t9, t10, t11)) (h7 : operand_Reg.f 1 = some (s1, s2, s3, s4, s5, s6, s7, s8)) :
    (t2 == s1 && (t3 == s2 && (t4 == s3 && (t5 == s4 && (t6 == s5 && (t7 == s6 && (t8 == s7 && (t9 == s8)))))))) = true := by
  obtain ⟨rfl, rfl, rfl, rfl, rfl, rfl, rfl, rfl, rfl, rfl, rfl⟩ := wkT1 hy h
  have h7 := Option.some.inj h7
  simp only [Prod.mk.injEq] at h7
  obtain ⟨rfl, rfl, rfl, rfl, rfl, rfl, rfl, rfl⟩ := h7
  rfl
theorem wkC13 {y : List Int} {t1 t2 t3 t4 t5 t6 t7 t9 t10 t11 : Int} {t8 : Bool} {s1 s2 s3 s4 s5 s6 s8 : Int} {s7 : Bool} (hy : y = [68, 36, 8, 99]) (h : G.Take y 0 = some (t1, t2, t3, t4, t5, t6, t7, t8, t9, t10, t11)) (h7 : operand_Mem.f 4 8 = some (s1, s2, s3, s4, s5, s6, s7, s8)) :
    (t2 == s1 && (t3 == s2 && (t4 == s3 && (t5 == s4 && (t6 == s5 && (t7 == s6 && (t8 == s7 && (t9 == s8)))))))) = true := by
  obtain ⟨rfl, rfl, rfl, rfl, rfl, rfl, rfl, rfl, rfl, rfl, rfl⟩ := wkT2 hy h
  have h7 := Option.some.inj h7
  have hm : mx 4 (-1) = 4 := by decide
  rw [hm] at h7
  simp only [Prod.mk.injEq] at h7
  obtain ⟨rfl, rfl, rfl, rfl, rfl, rfl, rfl, rfl⟩ := h7
  rfl
end Go.Proofs.YtppeidopijnnlaaDoor.B
