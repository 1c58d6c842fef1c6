import Derived.Test.YtppeidopijnnlaaDoorBack
namespace Go.Proofs.YtppeidopijnnlaaDoor.B
open Go.RowKit Go.Proofs.YtppeidopijnnlaaDoorW.PrintWords Go.Proofs.YtppeidopijnnlaaDoorW.PrintMore Go.RF
set_option linter.unusedVariables false
set_option linter.unusedSimpArgs false
attribute [local go_sem] Oper.semAt_some
theorem idx0 (a b : Int) (w : World) : (Instr.index 68 (.agg #[.int .i64 a, .int .i64 b]) (.int .i64 0)).run Tryd.prog w = .ok (.int .i64 a) w := by
  simp [Instr.index, run_underlying Tryd.underlying68, asIntOf, go_sem]
theorem idx1 (a b : Int) (w : World) : (Instr.index 68 (.agg #[.int .i64 a, .int .i64 b]) (.int .i64 1)).run Tryd.prog w = .ok (.int .i64 b) w := by
  simp [Instr.index, run_underlying Tryd.underlying68, asIntOf, go_sem]
attribute [local go_sem] idx0 idx1
/-- the registers of an address, from one place on -/
def regP (kind r : Int) : List Int := if kind = 2 ∧ 0 ≤ r then [r] else []
def regL (kind b i : Int) : Nat → List Int
  | 0 => regP kind b ++ regP kind i
  | 1 => regP kind i
  | _ => []
def encI (x : Int) : Array Value := #[.int .i64 x]
set_option maxHeartbeats 8000000 in
set_option maxRecDepth 100000 in
theorem regs_iter (bo : Nat) (f0 f1 f2 f3 f4 f5 f7 : Int) (f6 : Bool) (W : World) (R : Nat → Prop)
    (hb : W.heap[bo]? = some (.cells #[.int .u8 f0, .int .i64 f1, .int .i64 f2, .int .i64 f3, .int .i64 f4, .int .i64 f5, .bool f6, .int .i64 f7] 23 (0, 0))) (hR : ∀ k, R k → k ≠ bo) :
    Iter Tryd.prog 39 #[.pointer (some ⟨bo, 0, none⟩)] encI (fun _ => False) R (regL f0 f2 f3 0) W := by
  intro lp J Jx hJ hJx hY h0
  refine callsIn_wide.2 ?_
  simp only [List.append_toArray, List.cons_append, List.nil_append]
  have hsz : bo < W.heap.size := (Array.getElem?_eq_some_iff.1 hb).1
  have HBS := Aside0.mk hb
  have HY := Aside0.mk hY
  have HRR := Aside0.mk hR
  have q2 : W.cell? ⟨bo, 2, none⟩ = some (.int .i64 f2) := by rw [blk_cell hb]; rfl
  have q3 : W.cell? ⟨bo, 3, none⟩ = some (.int .i64 f3) := by rw [blk_cell hb]; rfl
  clear hY hR hb
  go_enter Tryd.func39, Tryd.ntmps39
  go_wp2_with fail
  go_loopw [10] (fun v wr => ∃ (pre : List Int) (i : Nat), i ≤ 2 ∧ v = .int .i64 (i : Int) ∧ regL f0 f2 f3 0 = pre ++ regL f0 f2 f3 i ∧ J pre wr ∧ Keeps (fun k => R k ∨ W.heap.size ≤ k) W wr) (fun v _ => (2 - intOf v).toNat)
  case atStart => exact ⟨[], 0, by omega, rfl, rfl, h0, Keeps.refl _ _⟩
  case round =>
    obtain ⟨pre, i, hi, rfl, hL, hj, hk⟩ := hrel
    have hb' := hk.at_ HBS.out (fun h => by rcases h with h | h; exact (HRR.out _ h) rfl; omega)
    have cb : wr.cell? ⟨bo, 0, none⟩ = some (.int .u8 f0) := by rw [blk_cell hb']; rfl
    have HL := Aside0.mk hL
    have HJ' := Aside0.mk hj
    have HK := Aside0.mk hk
    clear hL hj hk hb' q2 q3
    by_cases h2 : i = 2
    · subst h2
      go_wp2
      go_end0
      exact ⟨⟨_, rfl⟩, .inl (by rw [HL.out]; simpa [regL] using HJ'.out)⟩
    · obtain ⟨r, hr⟩ : ∃ r, r = if i = 0 then f2 else f3 := ⟨_, rfl⟩
      have hreg : regL f0 f2 f3 i = regP f0 r ++ regL f0 f2 f3 (i + 1) := by
        rcases (by omega : i = 0 ∨ i = 1) with rfl | rfl
        · subst hr; rfl
        · subst hr; simp [regL]
      have HREG := Aside0.mk hreg
      clear hreg
      by_cases hp : f0 = 2 ∧ 0 ≤ r
      · have ek : (f0 == 2) = true := by simpa using hp.1
        have er : decide (0 ≤ r) = true := decide_eq_true hp.2
        have HP := Aside0.mk (show regP f0 r = [r] by unfold regP; rw [if_pos hp])
        have HI := Aside0.mk h2
        obtain ⟨yf, ytmps, yassign, ybody, hy, hround⟩ := HY.out pre r (regL f0 f2 f3 (i + 1)) wr (by rw [HL.out, HREG.out, HP.out]; rfl) HJ'.out
        simp only [encI] at hy
        rcases (by omega : i = 0 ∨ i = 1) with rfl | rfl
        all_goals
          simp only [Nat.reduceEqDiff, if_true, if_false] at hr
          subst hr
          clear hp h2
          first | rw [show ((0 : Nat) : Int) = 0 from rfl] | rw [show ((1 : Nat) : Int) = 1 from rfl]
          go_upto_region 3 with (fail)
          refine (wpIn_wide (n := 0)).1 ?_
          gi_wp2
          refine ⟨rfl, hround.mono ?_⟩
          rintro e W3 (⟨rfl, hJ3, hk3⟩ | ⟨rfl, hJx3⟩)
          · have HJ3 := Aside0.mk hJ3
            have HK3 := Aside0.mk hk3
            clear hJ3 hk3 hround hy
            gi_wp2
            go_wp2
            first | exact ⟨⟨_, 1, by omega, rfl, by rw [HL.out, HREG.out, HP.out, List.append_assoc], HJ3.out, HK.out.trans HK3.out⟩, by decide⟩ | exact ⟨⟨_, 2, by omega, rfl, by rw [HL.out, HREG.out, HP.out, List.append_assoc], HJ3.out, HK.out.trans HK3.out⟩, by decide⟩
          · gi_wp2
            go_wp2
            refine bodyPost_ret (results_none rfl _ _ _) rfl ?_
            exact ⟨⟨_, rfl⟩, .inr ⟨_, _, by rw [HL.out, HREG.out, HP.out, List.append_assoc], hJx3⟩⟩
      · have HP := Aside0.mk (show regP f0 r = [] by unfold regP; rw [if_neg hp])
        by_cases hf : f0 = 2
        · have ek : (f0 == 2) = true := by simpa using hf
          have er : decide (0 ≤ r) = false := decide_eq_false (fun h => hp ⟨hf, h⟩)
          rcases (by omega : i = 0 ∨ i = 1) with rfl | rfl
          all_goals
            simp only [Nat.reduceEqDiff, if_true, if_false] at hr
            subst hr
            clear hp h2 hf
            first | rw [show ((0 : Nat) : Int) = 0 from rfl] | rw [show ((1 : Nat) : Int) = 1 from rfl]
            go_wp2
            first | exact ⟨⟨_, 1, by omega, rfl, by rw [HL.out, HREG.out, HP.out]; rfl, HJ'.out, HK.out⟩, by decide⟩ | exact ⟨⟨_, 2, by omega, rfl, by rw [HL.out, HREG.out, HP.out]; rfl, HJ'.out, HK.out⟩, by decide⟩
        · have ek : (f0 == 2) = false := by simpa using hf
          rcases (by omega : i = 0 ∨ i = 1) with rfl | rfl
          all_goals
            simp only [Nat.reduceEqDiff, if_true, if_false] at hr
            subst hr
            clear hp h2 hf
            first | rw [show ((0 : Nat) : Int) = 0 from rfl] | rw [show ((1 : Nat) : Int) = 1 from rfl]
            go_wp2
            first | exact ⟨⟨_, 1, by omega, rfl, by rw [HL.out, HREG.out, HP.out]; rfl, HJ'.out, HK.out⟩, by decide⟩ | exact ⟨⟨_, 2, by omega, rfl, by rw [HL.out, HREG.out, HP.out]; rfl, HJ'.out, HK.out⟩, by decide⟩
end Go.Proofs.YtppeidopijnnlaaDoor.B
