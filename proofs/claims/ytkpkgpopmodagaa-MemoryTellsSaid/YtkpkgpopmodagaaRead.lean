import Derived.Test.YtkpkgpopmodagaaGath
namespace Go.Proofs.Ytkpkgpopmodagaa.B
open Go.RowKit Go.Proofs.YtkpkgpopmodagaaW.PrintWords Go.Proofs.YtkpkgpopmodagaaW.PrintLast Go.Proofs.YtkpkgpopmodagaaW.PrintMore Go.RF
set_option linter.unusedVariables false
set_option linter.unusedSimpArgs false
attribute [local go_sem] Oper.semAt_some
attribute [local go_sem] min2_int

def readE (l : List S34) (a n : Int) : Int := if n < 0 ∨ n > 4096 then 2 else if ((gatherP l (chunksP l a n 4)).length : Int) < n then 120 else 0
def readP (l : List S34) (a n : Int) : List Int := if n < 0 ∨ n > 4096 then [] else if ((gatherP l (chunksP l a n 4)).length : Int) < n then [] else gatherP l (chunksP l a n 4)
def fetchP (l : List S34) (a n : Int) : List Int := gatherP l (chunksP l a (if n < 4096 then n else 4096) 1)
def fetchE (l : List S34) (a n : Int) : Int := if (fetchP l a n).length = 0 then 122 else 0

theorem R_nil (W : World) (base : Nat) : Kd.R (Kd.int .u8) 5 W base (fun _ => True) (.slice none 0 0) ([] : List Int) := R_of_own (own_nil _ _ _ _)

set_option maxRecDepth 100000 in
theorem read_calls (A0 : Option Addr) (c0 : Nat) (l : List S34) (a n : Int) (w : World) (hr0 : Kd.C k34 w A0 l.length l) :
    Calls Try.prog 15 #[.slice A0 l.length c0, .int .u64 a, .int .i64 n] w fun e w' =>
      ∃ v, e = .returned (.tuple #[v, .int .i64 (readE l a n)]) ∧ Kd.R (Kd.int .u8) 5 w' w.heap.size (fun _ => True) v (readP l a n) ∧ Below w.heap.size w w' := by
  have HR := Aside0.mk hr0
  clear hr0
  go_enter Try.func15, Try.ntmps15
  by_cases h1 : n < 0
  · have e1 : decide (n < 0) = true := decide_eq_true h1
    have HE := Aside0.mk (show readE l a n = 2 by unfold readE; rw [if_pos (.inl h1)])
    have HP := Aside0.mk (show readP l a n = [] by unfold readP; rw [if_pos (.inl h1)])
    clear h1
    go_wp2
    refine bodyPost_ret (v := .tuple #[.slice none 0 0, .int .i64 2]) (by simp [results, Try.f15, go_sem]) rfl ?_
    rw [HE.out, HP.out]
    exact ⟨_, rfl, R_nil _ _, Below.refl _ _⟩
  · have e1 : decide (n < 0) = false := decide_eq_false h1
    by_cases h2 : n > 4096
    · have e2 : decide ((4096 : Int) < n) = true := decide_eq_true h2
      have HE := Aside0.mk (show readE l a n = 2 by unfold readE; rw [if_pos (.inr h2)])
      have HP := Aside0.mk (show readP l a n = [] by unfold readP; rw [if_pos (.inr h2)])
      clear h1 h2
      go_wp2
      refine bodyPost_ret (v := .tuple #[.slice none 0 0, .int .i64 2]) (by simp [results, Try.f15, go_sem]) rfl ?_
      rw [HE.out, HP.out]
      exact ⟨_, rfl, R_nil _ _, Below.refl _ _⟩
    · have e2 : decide ((4096 : Int) < n) = false := decide_eq_false h2
      have E0 : readE l a n = if ((gatherP l (chunksP l a n 4)).length : Int) < n then 120 else 0 := by unfold readE; rw [if_neg (by omega)]
      have P0 : readP l a n = if ((gatherP l (chunksP l a n 4)).length : Int) < n then [] else gatherP l (chunksP l a n 4) := by unfold readP; rw [if_neg (by omega)]
      have hn : n ≤ 1000000000 := by omega
      have HE0 := Aside0.mk E0
      have HP0 := Aside0.mk P0
      clear h1 h2 E0 P0
      go_wp2_with fail
      refine (gathered_calls A0 c0 l a n 4 w HR.out hn).mono ?_
      rintro e w1 ⟨v, rfl, hv, hb⟩
      obtain ⟨Av, cv, rfl⟩ := Kd.R_slice hv
      have HV := Aside0.mk hv
      have HB := Aside0.mk hb
      clear hv hb
      by_cases h3 : ((gatherP l (chunksP l a n 4)).length : Int) < n
      · have e3 : decide (((gatherP l (chunksP l a n 4)).length : Int) < n) = true := decide_eq_true h3
        have HE := Aside0.mk (show readE l a n = 120 by rw [HE0.out, if_pos h3])
        have HP := Aside0.mk (show readP l a n = [] by rw [HP0.out, if_pos h3])
        clear h3
        go_wp2
        refine bodyPost_ret (v := .tuple #[.slice none 0 0, .int .i64 120]) (by simp [results, Try.f15, go_sem]) rfl ?_
        rw [HE.out, HP.out]
        exact ⟨_, rfl, R_nil _ _, HB.out⟩
      · have e3 : decide (((gatherP l (chunksP l a n 4)).length : Int) < n) = false := decide_eq_false h3
        have HE := Aside0.mk (show readE l a n = 0 by rw [HE0.out, if_neg h3])
        have HP := Aside0.mk (show readP l a n = gatherP l (chunksP l a n 4) by rw [HP0.out, if_neg h3])
        clear h3
        go_wp2
        refine bodyPost_ret (v := .tuple #[.slice Av (gatherP l (chunksP l a n 4)).length cv, .int .i64 0]) (by simp [results, Try.f15, go_sem]) rfl ?_
        rw [HE.out, HP.out]
        exact ⟨_, rfl, HV.out, HB.out⟩

set_option maxRecDepth 100000 in
theorem fetch_calls (A0 : Option Addr) (c0 : Nat) (l : List S34) (a n : Int) (w : World) (hr0 : Kd.C k34 w A0 l.length l) :
    Calls Try.prog 17 #[.slice A0 l.length c0, .int .u64 a, .int .i64 n] w fun e w' =>
      ∃ v, e = .returned (.tuple #[v, .int .i64 (fetchE l a n)]) ∧ Kd.R (Kd.int .u8) 5 w' w.heap.size (fun _ => True) v (fetchP l a n) ∧ Below w.heap.size w w' := by
  have HR := Aside0.mk hr0
  clear hr0
  go_enter Try.func17, Try.ntmps17
  have key : ∀ n' : Int, n' ≤ 1000000000 → fetchP l a n = gatherP l (chunksP l a n' 1) → Calls Try.prog 25 #[.slice A0 l.length c0, .int .u64 a, .int .i64 n', .int .u8 1] w fun e w' => ∃ v, e = .returned v ∧ Kd.R (Kd.int .u8) 5 w' w.heap.size (fun _ => True) v (fetchP l a n) ∧ Below w.heap.size w w' :=
    fun n' h e => by rw [e]; exact gathered_calls A0 c0 l a n' 1 w HR.out h
  have KEY := Aside0.mk key
  clear key
  by_cases h1 : ¬ (4096 < n)
  · skip
    have Q := Aside0.mk (KEY.out n (by omega) (by unfold fetchP; congr 1; congr 1; split <;> omega))
    have hd : decide ((4096 : Int) < n) = false := decide_eq_false h1
    go_wp2_with fail
    refine Q.out.mono ?_
    rintro e w1 ⟨v, rfl, hv, hb⟩
    obtain ⟨Av, cv, rfl⟩ := Kd.R_slice hv
    have HV := Aside0.mk hv
    have HB := Aside0.mk hb
    clear hv hb
    by_cases h3 : (fetchP l a n).length = 0
    · have e0 : fetchP l a n = [] := List.eq_nil_of_length_eq_zero h3
      have HE := Aside0.mk (show fetchE l a n = 122 by unfold fetchE; rw [if_pos h3])
      have HP := Aside0.mk e0
      have e3 : (((fetchP l a n).length : Int) == 0) = true := by simp [h3]
      clear e0
      go_wp2
      refine bodyPost_ret (v := .tuple #[.slice none 0 0, .int .i64 122]) (by simp [results, Try.f17, go_sem]) rfl ?_
      rw [HE.out, HP.out]
      exact ⟨_, rfl, R_nil _ _, HB.out⟩
    · have HE := Aside0.mk (show fetchE l a n = 0 by unfold fetchE; rw [if_neg h3])
      have e3 : (((fetchP l a n).length : Int) == 0) = false := by simpa using h3
      go_wp2
      refine bodyPost_ret (v := .tuple #[.slice Av (fetchP l a n).length cv, .int .i64 0]) (by simp [results, Try.f17, go_sem]) rfl ?_
      rw [HE.out]
      exact ⟨_, rfl, HV.out, HB.out⟩
  · skip
    have Q := Aside0.mk (KEY.out 4096 (by omega) (by unfold fetchP; rw [if_neg (by omega)]))
    have hd : decide ((4096 : Int) < n) = true := decide_eq_true (by omega)
    go_wp2_with fail
    refine Q.out.mono ?_
    rintro e w1 ⟨v, rfl, hv, hb⟩
    obtain ⟨Av, cv, rfl⟩ := Kd.R_slice hv
    have HV := Aside0.mk hv
    have HB := Aside0.mk hb
    clear hv hb
    by_cases h3 : (fetchP l a n).length = 0
    · have e0 : fetchP l a n = [] := List.eq_nil_of_length_eq_zero h3
      have HE := Aside0.mk (show fetchE l a n = 122 by unfold fetchE; rw [if_pos h3])
      have HP := Aside0.mk e0
      have e3 : (((fetchP l a n).length : Int) == 0) = true := by simp [h3]
      clear e0
      go_wp2
      refine bodyPost_ret (v := .tuple #[.slice none 0 0, .int .i64 122]) (by simp [results, Try.f17, go_sem]) rfl ?_
      rw [HE.out, HP.out]
      exact ⟨_, rfl, R_nil _ _, HB.out⟩
    · have HE := Aside0.mk (show fetchE l a n = 0 by unfold fetchE; rw [if_neg h3])
      have e3 : (((fetchP l a n).length : Int) == 0) = false := by simpa using h3
      go_wp2
      refine bodyPost_ret (v := .tuple #[.slice Av (fetchP l a n).length cv, .int .i64 0]) (by simp [results, Try.f17, go_sem]) rfl ?_
      rw [HE.out]
      exact ⟨_, rfl, HV.out, HB.out⟩
end Go.Proofs.Ytkpkgpopmodagaa.B
