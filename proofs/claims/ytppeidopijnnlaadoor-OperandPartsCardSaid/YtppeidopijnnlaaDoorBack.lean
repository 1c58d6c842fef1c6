import Derived.Test.YtppeidopijnnlaaDoorRF
import Derived.Test.YtppeidopijnnlaaDoorProg
import Derived.Test.YtppeidopijnnlaaDoorWWords
import Derived.Test.YtppeidopijnnlaaDoorWMore
import Derived.WalkKit
import Derived.Outline
import Derived.Sort.QuietIn
import Derived.RegionTactic
import Derived.ChangeAlike
import Derived.Deep.CutRange
import Derived.Deep.DeepCutAuto
import Derived.Deep.CutBlock
namespace Go.Proofs.YtppeidopijnnlaaDoor.B
open Go.RowKit Go.Proofs.YtppeidopijnnlaaDoorW.PrintWords Go.Proofs.YtppeidopijnnlaaDoorW.PrintMore Go.RF
set_option linter.unusedVariables false
set_option linter.unusedSimpArgs false
attribute [local go_sem] Oper.semAt_some

/-- The elements of a row, told from its end, each with its place. -/
def backL (xs : List Int) : Nat → List (Nat × Int)
  | 0 => []
  | m + 1 => (m, xs.getD m 0) :: backL xs m
def encB (x : Nat × Int) : Array Value := #[.int .i64 x.1, .int .u8 x.2]
theorem cell_of_block {W : World} {b : Nat} {v : Value} {t : Nat} (h : W.heap[b]? = some (.cells #[v] t (0, 0))) : W.cell? ⟨b, 0, none⟩ = some v ∧ W.frozen? ⟨b, 0, none⟩ = false := by
  unfold World.cell? World.frozen?
  simp [h]
theorem block_add (ad : Addr) (n : Nat) : (ad.add n).block = ad.block := by unfold Addr.add; split <;> rfl
/-- the place in a box -/
def intOf : Value → Int | .int _ n => n | _ => 0
set_option maxHeartbeats 8000000 in
set_option maxRecDepth 100000 in
theorem back_iter (bs : Nat) (ad : Addr) (c : Nat) (xs : List Int) (W : World) (R : Nat → Prop) (hb : W.heap[bs]? = some (.cells #[.slice (some ad) xs.length c] 24 (0, 0))) (hm : xs.length ≤ 1000000)
    (hx : ∀ j, j < xs.length → W.cell? (ad.add j) = some (.int .u8 (xs.getD j 0))) (hR : ∀ k, R k → k ≠ bs ∧ k ≠ ad.block) :
    Iter Tryd.prog 37 #[.pointer (some ⟨bs, 0, none⟩)] encB (fun _ => False) R (backL xs xs.length) W := by
  intro lp J Jx hJ hJx hY h0
  refine callsIn_wide.2 ?_
  simp only [List.append_toArray, List.cons_append, List.nil_append]
  have hsz : bs < W.heap.size := (Array.getElem?_eq_some_iff.1 hb).1
  have c0 := (cell_of_block hb).1
  have HBS := Aside0.mk hb
  have HY := Aside0.mk hY
  have HX := Aside0.mk hx
  have HRR := Aside0.mk hR
  clear hY hx hR hb
  go_enter Tryd.func37, Tryd.ntmps37
  go_wp2_with fail
  go_loopw [3] (fun v wr => ∃ (pre : List (Nat × Int)) (m : Nat), m ≤ xs.length ∧ v = .int .i64 ((m : Int) - 1) ∧ backL xs xs.length = pre ++ backL xs m ∧ J pre wr ∧ Keeps (fun k => R k ∨ W.heap.size ≤ k) W wr) (fun v _ => (intOf v + 1).toNat)
  case atStart => exact ⟨[], xs.length, Nat.le_refl _, rfl, rfl, h0, Keeps.refl _ _⟩
  case round =>
    obtain ⟨pre, m, hmx, rfl, hL, hj, hk⟩ := hrel
    have hb' := hk.at_ HBS.out (fun h => by rcases h with h | h; exact (HRR.out _ h).1 rfl; omega)
    have cb := (cell_of_block hb').1
    have HL := Aside0.mk hL
    have HJ' := Aside0.mk hj
    have HK := Aside0.mk hk
    have HB' := Aside0.mk hb'
    clear hL hj hk hb' c0
    cases m with
    | zero =>
      go_wp2
      go_end0
      exact ⟨⟨_, rfl⟩, .inl (by rw [HL.out]; simpa [backL] using HJ'.out)⟩
    | succ m =>
      have e0 : decide ((0 : Int) ≤ ((m + 1 : Nat) : Int) - 1) = true := decide_eq_true (by omega)
      have e1 : (((m + 1 : Nat) : Int) - 1) = (m : Int) := by omega
      rw [e1]
      have hcm : wr.cell? (ad.add m) = some (.int .u8 (xs.getD m 0)) := HK.out.cell (HX.out m (by omega)) (fun h => by
        rw [block_add] at h
        rcases h with h | h
        · exact (HRR.out _ h).2 rfl
        · have := World.block_lt_of_cell? W _ (HX.out m (by omega)); rw [block_add] at this; omega)
      clear e0 e1
      go_upto_region 3 with (fail)
      refine (wpIn_wide (n := 0)).1 ?_
      obtain ⟨yf, ytmps, yassign, ybody, hy, hround⟩ := HY.out pre (m, xs.getD m 0) (backL xs m) wr (by rw [HL.out]; rfl) HJ'.out
      simp only [encB, List.getD_eq_getElem?_getD] at hy
      gi_wp2
      refine ⟨rfl, hround.mono ?_⟩
      rintro e W3 (⟨rfl, hJ3, hk3⟩ | ⟨rfl, hJx3⟩)
      · have HJ3 := Aside0.mk hJ3
        have HK3 := Aside0.mk hk3
        clear hJ3 hk3 hround hy
        gi_wp2
        go_wp2
        refine ⟨⟨pre ++ [(m, xs.getD m 0)], m, by omega, rfl, by rw [HL.out]; simp [backL], HJ3.out, HK.out.trans HK3.out⟩, ?_⟩
        show (((m : Int) - 1) + 1).toNat < ((m : Int) + 1).toNat
        omega
      · gi_wp2
        go_wp2
        refine bodyPost_ret (results_none rfl _ _ _) rfl ?_
        exact ⟨⟨_, rfl⟩, .inr ⟨pre ++ [(m, xs.getD m 0)], backL xs m, by rw [HL.out]; simp [backL], hJx3⟩⟩
end Go.Proofs.YtppeidopijnnlaaDoor.B
