/- Conditions. Registers got and set. The parts of an address, one by one. A region that draws its order and hands values to a yield: an operation that tells its value in every world that meets a condition may be taken first (inside a fence). The parts of an address, one by one. -/
import Derived.Test.YtpmclnlgipphmaaDoorAq8
import Derived.Test.YtpmclnlgipphmaaDoorAq7
import Derived.Laws.Rows
import Derived.Stop.RegionWithIn
import Derived.OrdersIn
import Derived.OrdersHeld
namespace Go.Proofs.YtpmclnlgipphmaaDoor.B
open Go.RowKit Go.Proofs.YtpmclnlgipphmaaDoorW.PrintWords Go.Proofs.YtpmclnlgipphmaaDoorW.PrintMore Go.RF
set_option linter.unusedVariables false
set_option linter.unusedSimpArgs false
attribute [local go_sem] Oper.semAt_some
def Tab (w : World) : Prop := w.cell? ⟨0, 0, none⟩ = some (.func (.func 41) #[] #[]) ∧ w.cell? ⟨0, 1, none⟩ = some (.func (.func 42) #[] #[]) ∧ w.cell? ⟨0, 2, none⟩ = some (.func (.func 43) #[] #[]) ∧ w.cell? ⟨0, 3, none⟩ = some (.func (.func 44) #[] #[]) ∧ w.cell? ⟨0, 4, none⟩ = some (.func (.func 45) #[] #[]) ∧ w.cell? ⟨0, 5, none⟩ = some (.func (.func 46) #[] #[]) ∧ w.cell? ⟨0, 6, none⟩ = some (.func (.func 47) #[] #[]) ∧ w.cell? ⟨0, 7, none⟩ = some (.func (.func 48) #[] #[])
theorem Tab.lt {w : World} (h : Tab w) : 0 < w.heap.size := by
  have h1 := h.1
  unfold World.cell? at h1
  by_cases hs : 0 < w.heap.size
  · exact hs
  · have e : w.heap[0]? = none := Array.getElem?_eq_none (by omega)
    simp [e] at h1
theorem Tab.keeps {S : Nat → Prop} {W W1 : World} (h : Tab W) (k : Keeps S W W1) (hS : ¬ S 0) : Tab W1 :=
  ⟨k.cell h.1 hS, k.cell h.2.1 hS, k.cell h.2.2.1 hS, k.cell h.2.2.2.1 hS, k.cell h.2.2.2.2.1 hS, k.cell h.2.2.2.2.2.1 hS, k.cell h.2.2.2.2.2.2.1 hS, k.cell h.2.2.2.2.2.2.2 hS⟩
theorem Tab.below {W W1 : World} (h : Tab W) (k : Below W.heap.size W W1) : Tab W1 := h.keeps (Keeps.of_below (S := fun j => ¬ j < W.heap.size) k (fun j _ h => Classical.not_not.1 h)) (fun hn => hn h.lt)
def holdsF (i : Nat) (C Z S O P : Bool) : Bool := if i = 0 then O else if i = 1 then C else if i = 2 then Z else if i = 3 then (C || Z) else if i = 4 then S else if i = 5 then P else if i = 6 then (S != O) else (Z || (S != O))
theorem holds_calls (i : Nat) (hi : i < 8) (C Z S O P : Bool) (w : World) : Calls Tryd.prog (41 + i) #[.agg #[.bool C, .bool Z, .bool S, .bool O, .bool P]] w fun e w' => e = .returned (.bool (holdsF i C Z S O P)) ∧ Below w.heap.size w w' := by
  have h : i = 0 ∨ i = 1 ∨ i = 2 ∨ i = 3 ∨ i = 4 ∨ i = 5 ∨ i = 6 ∨ i = 7 := by omega
  rcases h with rfl | rfl | rfl | rfl | rfl | rfl | rfl | rfl
  · exact cpu_holds_1.calls C Z S O P _ w rfl
  · exact cpu_holds_2.calls C Z S O P _ w rfl
  · exact cpu_holds_3.calls C Z S O P _ w rfl
  · exact cpu_holds_4.calls C Z S O P _ w (by unfold cpu_holds_4.f; cases C <;> rfl)
  · exact cpu_holds_5.calls C Z S O P _ w rfl
  · exact cpu_holds_6.calls C Z S O P _ w rfl
  · exact cpu_holds_7.calls C Z S O P _ w rfl
  · exact cpu_holds_8.calls C Z S O P _ w (by unfold cpu_holds_8.f; cases Z <;> rfl)
set_option maxHeartbeats 8000000 in
set_option maxRecDepth 100000 in
theorem cond_0 (C Z S O P : Bool) (cond q : Int) (w : World) (hT : Tab w) (h7 : Go.bits .and .u8 (cond / 2) 7 = 0) (h1 : Go.bits .and .u8 cond 1 = q) :
    Calls Tryd.prog 12 #[.agg #[.bool C, .bool Z, .bool S, .bool O, .bool P], .int .u8 cond] w fun e w' => e = .returned (.bool (holdsF 0 C Z S O P != (q == 1))) ∧ Below w.heap.size w w' := by
  have hu27 := Tryd.underlying27
  have HT := Aside0.mk hT
  have hlt := hT.lt
  clear hT
  go_enter Tryd.func12, Tryd.ntmps12
  go_upto_region 1 with (fail)
  have b0 := World.alloc_heap_new w (.cells #[.bool C, .bool Z, .bool S, .bool O, .bool P] 27)
  have hbl : Below w.heap.size w (w.alloc (.cells #[.bool C, .bool Z, .bool S, .bool O, .bool P] 27)) := bX_ (Below.refl _ _) _
  have B0 := Aside0.mk b0
  have HB := Aside0.mk hbl
  have HT1 := Aside0.mk (HT.out.below hbl)
  clear b0 hbl
  generalize w.alloc (.cells #[.bool C, .bool Z, .bool S, .bool O, .bool P] 27) = w1 at *
  obtain ⟨⟨q0, q1, q2, q3, q4⟩, -⟩ := rows5 B0.out
  have t0 : w1.cell? ⟨0, 0, none⟩ = some (.func (.func 41) #[] #[]) := HT1.out.1
  have hl1 : w.heap.size < w1.heap.size := blk_lt B0.out
  go_region_held3 (fun w' => w'.cell? ⟨0, 0, none⟩ = some (.func (.func 41) #[] #[]) ∧ w'.cell? ⟨w.heap.size, 0, none⟩ = some (.bool C) ∧ w'.cell? ⟨w.heap.size, 1, none⟩ = some (.bool Z) ∧ w'.cell? ⟨w.heap.size, 2, none⟩ = some (.bool S) ∧ w'.cell? ⟨w.heap.size, 3, none⟩ = some (.bool O) ∧ w'.cell? ⟨w.heap.size, 4, none⟩ = some (.bool P)) (first | go_keep | (simp [*]; done) | (refine ⟨?_, ?_, ?_, ?_, ?_, ?_⟩ <;> (refine (hb3.cell (p := ⟨_, _, none⟩) ?_).trans ?_ <;> first | assumption | (show 0 < w1.heap.size; omega) | (show w.heap.size < w1.heap.size; omega)))) (first | (go_at_call 41; refine (holds_calls 0 (by decide) C Z S O P _).mono ?_; rintro e w3 ⟨rfl, hb3⟩))
  all_goals have HB3 := Aside0.mk hb3
  all_goals clear hb3
  all_goals go_wp2_with fail
  all_goals go_ret
  all_goals exact ⟨rfl, (HB.out.trans (show Below w.heap.size w1 w1.drew from ⟨rfl, rfl, rfl, Nat.le_refl _, fun _ _ => rfl⟩)).trans (HB3.out.mono (show w.heap.size ≤ w1.heap.size by omega))⟩
set_option maxHeartbeats 8000000 in
set_option maxRecDepth 100000 in
theorem cond_1 (C Z S O P : Bool) (cond q : Int) (w : World) (hT : Tab w) (h7 : Go.bits .and .u8 (cond / 2) 7 = 1) (h1 : Go.bits .and .u8 cond 1 = q) :
    Calls Tryd.prog 12 #[.agg #[.bool C, .bool Z, .bool S, .bool O, .bool P], .int .u8 cond] w fun e w' => e = .returned (.bool (holdsF 1 C Z S O P != (q == 1))) ∧ Below w.heap.size w w' := by
  have hu27 := Tryd.underlying27
  have HT := Aside0.mk hT
  have hlt := hT.lt
  clear hT
  go_enter Tryd.func12, Tryd.ntmps12
  go_upto_region 1 with (fail)
  have b0 := World.alloc_heap_new w (.cells #[.bool C, .bool Z, .bool S, .bool O, .bool P] 27)
  have hbl : Below w.heap.size w (w.alloc (.cells #[.bool C, .bool Z, .bool S, .bool O, .bool P] 27)) := bX_ (Below.refl _ _) _
  have B0 := Aside0.mk b0
  have HB := Aside0.mk hbl
  have HT1 := Aside0.mk (HT.out.below hbl)
  clear b0 hbl
  generalize w.alloc (.cells #[.bool C, .bool Z, .bool S, .bool O, .bool P] 27) = w1 at *
  obtain ⟨⟨q0, q1, q2, q3, q4⟩, -⟩ := rows5 B0.out
  have t0 : w1.cell? ⟨0, 1, none⟩ = some (.func (.func 42) #[] #[]) := HT1.out.2.1
  have hl1 : w.heap.size < w1.heap.size := blk_lt B0.out
  go_region_held3 (fun w' => w'.cell? ⟨0, 1, none⟩ = some (.func (.func 42) #[] #[]) ∧ w'.cell? ⟨w.heap.size, 0, none⟩ = some (.bool C) ∧ w'.cell? ⟨w.heap.size, 1, none⟩ = some (.bool Z) ∧ w'.cell? ⟨w.heap.size, 2, none⟩ = some (.bool S) ∧ w'.cell? ⟨w.heap.size, 3, none⟩ = some (.bool O) ∧ w'.cell? ⟨w.heap.size, 4, none⟩ = some (.bool P)) (first | go_keep | (simp [*]; done) | (refine ⟨?_, ?_, ?_, ?_, ?_, ?_⟩ <;> (refine (hb3.cell (p := ⟨_, _, none⟩) ?_).trans ?_ <;> first | assumption | (show 0 < w1.heap.size; omega) | (show w.heap.size < w1.heap.size; omega)))) (first | (go_at_call 42; refine (holds_calls 1 (by decide) C Z S O P _).mono ?_; rintro e w3 ⟨rfl, hb3⟩))
  all_goals have HB3 := Aside0.mk hb3
  all_goals clear hb3
  all_goals go_wp2_with fail
  all_goals go_ret
  all_goals exact ⟨rfl, (HB.out.trans (show Below w.heap.size w1 w1.drew from ⟨rfl, rfl, rfl, Nat.le_refl _, fun _ _ => rfl⟩)).trans (HB3.out.mono (show w.heap.size ≤ w1.heap.size by omega))⟩
set_option maxHeartbeats 8000000 in
set_option maxRecDepth 100000 in
theorem cond_2 (C Z S O P : Bool) (cond q : Int) (w : World) (hT : Tab w) (h7 : Go.bits .and .u8 (cond / 2) 7 = 2) (h1 : Go.bits .and .u8 cond 1 = q) :
    Calls Tryd.prog 12 #[.agg #[.bool C, .bool Z, .bool S, .bool O, .bool P], .int .u8 cond] w fun e w' => e = .returned (.bool (holdsF 2 C Z S O P != (q == 1))) ∧ Below w.heap.size w w' := by
  have hu27 := Tryd.underlying27
  have HT := Aside0.mk hT
  have hlt := hT.lt
  clear hT
  go_enter Tryd.func12, Tryd.ntmps12
  go_upto_region 1 with (fail)
  have b0 := World.alloc_heap_new w (.cells #[.bool C, .bool Z, .bool S, .bool O, .bool P] 27)
  have hbl : Below w.heap.size w (w.alloc (.cells #[.bool C, .bool Z, .bool S, .bool O, .bool P] 27)) := bX_ (Below.refl _ _) _
  have B0 := Aside0.mk b0
  have HB := Aside0.mk hbl
  have HT1 := Aside0.mk (HT.out.below hbl)
  clear b0 hbl
  generalize w.alloc (.cells #[.bool C, .bool Z, .bool S, .bool O, .bool P] 27) = w1 at *
  obtain ⟨⟨q0, q1, q2, q3, q4⟩, -⟩ := rows5 B0.out
  have t0 : w1.cell? ⟨0, 2, none⟩ = some (.func (.func 43) #[] #[]) := HT1.out.2.2.1
  have hl1 : w.heap.size < w1.heap.size := blk_lt B0.out
  go_region_held3 (fun w' => w'.cell? ⟨0, 2, none⟩ = some (.func (.func 43) #[] #[]) ∧ w'.cell? ⟨w.heap.size, 0, none⟩ = some (.bool C) ∧ w'.cell? ⟨w.heap.size, 1, none⟩ = some (.bool Z) ∧ w'.cell? ⟨w.heap.size, 2, none⟩ = some (.bool S) ∧ w'.cell? ⟨w.heap.size, 3, none⟩ = some (.bool O) ∧ w'.cell? ⟨w.heap.size, 4, none⟩ = some (.bool P)) (first | go_keep | (simp [*]; done) | (refine ⟨?_, ?_, ?_, ?_, ?_, ?_⟩ <;> (refine (hb3.cell (p := ⟨_, _, none⟩) ?_).trans ?_ <;> first | assumption | (show 0 < w1.heap.size; omega) | (show w.heap.size < w1.heap.size; omega)))) (first | (go_at_call 43; refine (holds_calls 2 (by decide) C Z S O P _).mono ?_; rintro e w3 ⟨rfl, hb3⟩))
  all_goals have HB3 := Aside0.mk hb3
  all_goals clear hb3
  all_goals go_wp2_with fail
  all_goals go_ret
  all_goals exact ⟨rfl, (HB.out.trans (show Below w.heap.size w1 w1.drew from ⟨rfl, rfl, rfl, Nat.le_refl _, fun _ _ => rfl⟩)).trans (HB3.out.mono (show w.heap.size ≤ w1.heap.size by omega))⟩
set_option maxHeartbeats 8000000 in
set_option maxRecDepth 100000 in
theorem cond_3 (C Z S O P : Bool) (cond q : Int) (w : World) (hT : Tab w) (h7 : Go.bits .and .u8 (cond / 2) 7 = 3) (h1 : Go.bits .and .u8 cond 1 = q) :
    Calls Tryd.prog 12 #[.agg #[.bool C, .bool Z, .bool S, .bool O, .bool P], .int .u8 cond] w fun e w' => e = .returned (.bool (holdsF 3 C Z S O P != (q == 1))) ∧ Below w.heap.size w w' := by
  have hu27 := Tryd.underlying27
  have HT := Aside0.mk hT
  have hlt := hT.lt
  clear hT
  go_enter Tryd.func12, Tryd.ntmps12
  go_upto_region 1 with (fail)
  have b0 := World.alloc_heap_new w (.cells #[.bool C, .bool Z, .bool S, .bool O, .bool P] 27)
  have hbl : Below w.heap.size w (w.alloc (.cells #[.bool C, .bool Z, .bool S, .bool O, .bool P] 27)) := bX_ (Below.refl _ _) _
  have B0 := Aside0.mk b0
  have HB := Aside0.mk hbl
  have HT1 := Aside0.mk (HT.out.below hbl)
  clear b0 hbl
  generalize w.alloc (.cells #[.bool C, .bool Z, .bool S, .bool O, .bool P] 27) = w1 at *
  obtain ⟨⟨q0, q1, q2, q3, q4⟩, -⟩ := rows5 B0.out
  have t0 : w1.cell? ⟨0, 3, none⟩ = some (.func (.func 44) #[] #[]) := HT1.out.2.2.2.1
  have hl1 : w.heap.size < w1.heap.size := blk_lt B0.out
  go_region_held3 (fun w' => w'.cell? ⟨0, 3, none⟩ = some (.func (.func 44) #[] #[]) ∧ w'.cell? ⟨w.heap.size, 0, none⟩ = some (.bool C) ∧ w'.cell? ⟨w.heap.size, 1, none⟩ = some (.bool Z) ∧ w'.cell? ⟨w.heap.size, 2, none⟩ = some (.bool S) ∧ w'.cell? ⟨w.heap.size, 3, none⟩ = some (.bool O) ∧ w'.cell? ⟨w.heap.size, 4, none⟩ = some (.bool P)) (first | go_keep | (simp [*]; done) | (refine ⟨?_, ?_, ?_, ?_, ?_, ?_⟩ <;> (refine (hb3.cell (p := ⟨_, _, none⟩) ?_).trans ?_ <;> first | assumption | (show 0 < w1.heap.size; omega) | (show w.heap.size < w1.heap.size; omega)))) (first | (go_at_call 44; refine (holds_calls 3 (by decide) C Z S O P _).mono ?_; rintro e w3 ⟨rfl, hb3⟩))
  all_goals have HB3 := Aside0.mk hb3
  all_goals clear hb3
  all_goals go_wp2_with fail
  all_goals go_ret
  all_goals exact ⟨rfl, (HB.out.trans (show Below w.heap.size w1 w1.drew from ⟨rfl, rfl, rfl, Nat.le_refl _, fun _ _ => rfl⟩)).trans (HB3.out.mono (show w.heap.size ≤ w1.heap.size by omega))⟩
set_option maxHeartbeats 8000000 in
set_option maxRecDepth 100000 in
theorem cond_4 (C Z S O P : Bool) (cond q : Int) (w : World) (hT : Tab w) (h7 : Go.bits .and .u8 (cond / 2) 7 = 4) (h1 : Go.bits .and .u8 cond 1 = q) :
    Calls Tryd.prog 12 #[.agg #[.bool C, .bool Z, .bool S, .bool O, .bool P], .int .u8 cond] w fun e w' => e = .returned (.bool (holdsF 4 C Z S O P != (q == 1))) ∧ Below w.heap.size w w' := by
  have hu27 := Tryd.underlying27
  have HT := Aside0.mk hT
  have hlt := hT.lt
  clear hT
  go_enter Tryd.func12, Tryd.ntmps12
  go_upto_region 1 with (fail)
  have b0 := World.alloc_heap_new w (.cells #[.bool C, .bool Z, .bool S, .bool O, .bool P] 27)
  have hbl : Below w.heap.size w (w.alloc (.cells #[.bool C, .bool Z, .bool S, .bool O, .bool P] 27)) := bX_ (Below.refl _ _) _
  have B0 := Aside0.mk b0
  have HB := Aside0.mk hbl
  have HT1 := Aside0.mk (HT.out.below hbl)
  clear b0 hbl
  generalize w.alloc (.cells #[.bool C, .bool Z, .bool S, .bool O, .bool P] 27) = w1 at *
  obtain ⟨⟨q0, q1, q2, q3, q4⟩, -⟩ := rows5 B0.out
  have t0 : w1.cell? ⟨0, 4, none⟩ = some (.func (.func 45) #[] #[]) := HT1.out.2.2.2.2.1
  have hl1 : w.heap.size < w1.heap.size := blk_lt B0.out
  go_region_held3 (fun w' => w'.cell? ⟨0, 4, none⟩ = some (.func (.func 45) #[] #[]) ∧ w'.cell? ⟨w.heap.size, 0, none⟩ = some (.bool C) ∧ w'.cell? ⟨w.heap.size, 1, none⟩ = some (.bool Z) ∧ w'.cell? ⟨w.heap.size, 2, none⟩ = some (.bool S) ∧ w'.cell? ⟨w.heap.size, 3, none⟩ = some (.bool O) ∧ w'.cell? ⟨w.heap.size, 4, none⟩ = some (.bool P)) (first | go_keep | (simp [*]; done) | (refine ⟨?_, ?_, ?_, ?_, ?_, ?_⟩ <;> (refine (hb3.cell (p := ⟨_, _, none⟩) ?_).trans ?_ <;> first | assumption | (show 0 < w1.heap.size; omega) | (show w.heap.size < w1.heap.size; omega)))) (first | (go_at_call 45; refine (holds_calls 4 (by decide) C Z S O P _).mono ?_; rintro e w3 ⟨rfl, hb3⟩))
  all_goals have HB3 := Aside0.mk hb3
  all_goals clear hb3
  all_goals go_wp2_with fail
  all_goals go_ret
  all_goals exact ⟨rfl, (HB.out.trans (show Below w.heap.size w1 w1.drew from ⟨rfl, rfl, rfl, Nat.le_refl _, fun _ _ => rfl⟩)).trans (HB3.out.mono (show w.heap.size ≤ w1.heap.size by omega))⟩
set_option maxHeartbeats 8000000 in
set_option maxRecDepth 100000 in
theorem cond_5 (C Z S O P : Bool) (cond q : Int) (w : World) (hT : Tab w) (h7 : Go.bits .and .u8 (cond / 2) 7 = 5) (h1 : Go.bits .and .u8 cond 1 = q) :
    Calls Tryd.prog 12 #[.agg #[.bool C, .bool Z, .bool S, .bool O, .bool P], .int .u8 cond] w fun e w' => e = .returned (.bool (holdsF 5 C Z S O P != (q == 1))) ∧ Below w.heap.size w w' := by
  have hu27 := Tryd.underlying27
  have HT := Aside0.mk hT
  have hlt := hT.lt
  clear hT
  go_enter Tryd.func12, Tryd.ntmps12
  go_upto_region 1 with (fail)
  have b0 := World.alloc_heap_new w (.cells #[.bool C, .bool Z, .bool S, .bool O, .bool P] 27)
  have hbl : Below w.heap.size w (w.alloc (.cells #[.bool C, .bool Z, .bool S, .bool O, .bool P] 27)) := bX_ (Below.refl _ _) _
  have B0 := Aside0.mk b0
  have HB := Aside0.mk hbl
  have HT1 := Aside0.mk (HT.out.below hbl)
  clear b0 hbl
  generalize w.alloc (.cells #[.bool C, .bool Z, .bool S, .bool O, .bool P] 27) = w1 at *
  obtain ⟨⟨q0, q1, q2, q3, q4⟩, -⟩ := rows5 B0.out
  have t0 : w1.cell? ⟨0, 5, none⟩ = some (.func (.func 46) #[] #[]) := HT1.out.2.2.2.2.2.1
  have hl1 : w.heap.size < w1.heap.size := blk_lt B0.out
  go_region_held3 (fun w' => w'.cell? ⟨0, 5, none⟩ = some (.func (.func 46) #[] #[]) ∧ w'.cell? ⟨w.heap.size, 0, none⟩ = some (.bool C) ∧ w'.cell? ⟨w.heap.size, 1, none⟩ = some (.bool Z) ∧ w'.cell? ⟨w.heap.size, 2, none⟩ = some (.bool S) ∧ w'.cell? ⟨w.heap.size, 3, none⟩ = some (.bool O) ∧ w'.cell? ⟨w.heap.size, 4, none⟩ = some (.bool P)) (first | go_keep | (simp [*]; done) | (refine ⟨?_, ?_, ?_, ?_, ?_, ?_⟩ <;> (refine (hb3.cell (p := ⟨_, _, none⟩) ?_).trans ?_ <;> first | assumption | (show 0 < w1.heap.size; omega) | (show w.heap.size < w1.heap.size; omega)))) (first | (go_at_call 46; refine (holds_calls 5 (by decide) C Z S O P _).mono ?_; rintro e w3 ⟨rfl, hb3⟩))
  all_goals have HB3 := Aside0.mk hb3
  all_goals clear hb3
  all_goals go_wp2_with fail
  all_goals go_ret
  all_goals exact ⟨rfl, (HB.out.trans (show Below w.heap.size w1 w1.drew from ⟨rfl, rfl, rfl, Nat.le_refl _, fun _ _ => rfl⟩)).trans (HB3.out.mono (show w.heap.size ≤ w1.heap.size by omega))⟩
set_option maxHeartbeats 8000000 in
set_option maxRecDepth 100000 in
theorem cond_6 (C Z S O P : Bool) (cond q : Int) (w : World) (hT : Tab w) (h7 : Go.bits .and .u8 (cond / 2) 7 = 6) (h1 : Go.bits .and .u8 cond 1 = q) :
    Calls Tryd.prog 12 #[.agg #[.bool C, .bool Z, .bool S, .bool O, .bool P], .int .u8 cond] w fun e w' => e = .returned (.bool (holdsF 6 C Z S O P != (q == 1))) ∧ Below w.heap.size w w' := by
  have hu27 := Tryd.underlying27
  have HT := Aside0.mk hT
  have hlt := hT.lt
  clear hT
  go_enter Tryd.func12, Tryd.ntmps12
  go_upto_region 1 with (fail)
  have b0 := World.alloc_heap_new w (.cells #[.bool C, .bool Z, .bool S, .bool O, .bool P] 27)
  have hbl : Below w.heap.size w (w.alloc (.cells #[.bool C, .bool Z, .bool S, .bool O, .bool P] 27)) := bX_ (Below.refl _ _) _
  have B0 := Aside0.mk b0
  have HB := Aside0.mk hbl
  have HT1 := Aside0.mk (HT.out.below hbl)
  clear b0 hbl
  generalize w.alloc (.cells #[.bool C, .bool Z, .bool S, .bool O, .bool P] 27) = w1 at *
  obtain ⟨⟨q0, q1, q2, q3, q4⟩, -⟩ := rows5 B0.out
  have t0 : w1.cell? ⟨0, 6, none⟩ = some (.func (.func 47) #[] #[]) := HT1.out.2.2.2.2.2.2.1
  have hl1 : w.heap.size < w1.heap.size := blk_lt B0.out
  go_region_held3 (fun w' => w'.cell? ⟨0, 6, none⟩ = some (.func (.func 47) #[] #[]) ∧ w'.cell? ⟨w.heap.size, 0, none⟩ = some (.bool C) ∧ w'.cell? ⟨w.heap.size, 1, none⟩ = some (.bool Z) ∧ w'.cell? ⟨w.heap.size, 2, none⟩ = some (.bool S) ∧ w'.cell? ⟨w.heap.size, 3, none⟩ = some (.bool O) ∧ w'.cell? ⟨w.heap.size, 4, none⟩ = some (.bool P)) (first | go_keep | (simp [*]; done) | (refine ⟨?_, ?_, ?_, ?_, ?_, ?_⟩ <;> (refine (hb3.cell (p := ⟨_, _, none⟩) ?_).trans ?_ <;> first | assumption | (show 0 < w1.heap.size; omega) | (show w.heap.size < w1.heap.size; omega)))) (first | (go_at_call 47; refine (holds_calls 6 (by decide) C Z S O P _).mono ?_; rintro e w3 ⟨rfl, hb3⟩))
  all_goals have HB3 := Aside0.mk hb3
  all_goals clear hb3
  all_goals go_wp2_with fail
  all_goals go_ret
  all_goals exact ⟨rfl, (HB.out.trans (show Below w.heap.size w1 w1.drew from ⟨rfl, rfl, rfl, Nat.le_refl _, fun _ _ => rfl⟩)).trans (HB3.out.mono (show w.heap.size ≤ w1.heap.size by omega))⟩
set_option maxHeartbeats 8000000 in
set_option maxRecDepth 100000 in
theorem cond_7 (C Z S O P : Bool) (cond q : Int) (w : World) (hT : Tab w) (h7 : Go.bits .and .u8 (cond / 2) 7 = 7) (h1 : Go.bits .and .u8 cond 1 = q) :
    Calls Tryd.prog 12 #[.agg #[.bool C, .bool Z, .bool S, .bool O, .bool P], .int .u8 cond] w fun e w' => e = .returned (.bool (holdsF 7 C Z S O P != (q == 1))) ∧ Below w.heap.size w w' := by
  have hu27 := Tryd.underlying27
  have HT := Aside0.mk hT
  have hlt := hT.lt
  clear hT
  go_enter Tryd.func12, Tryd.ntmps12
  go_upto_region 1 with (fail)
  have b0 := World.alloc_heap_new w (.cells #[.bool C, .bool Z, .bool S, .bool O, .bool P] 27)
  have hbl : Below w.heap.size w (w.alloc (.cells #[.bool C, .bool Z, .bool S, .bool O, .bool P] 27)) := bX_ (Below.refl _ _) _
  have B0 := Aside0.mk b0
  have HB := Aside0.mk hbl
  have HT1 := Aside0.mk (HT.out.below hbl)
  clear b0 hbl
  generalize w.alloc (.cells #[.bool C, .bool Z, .bool S, .bool O, .bool P] 27) = w1 at *
  obtain ⟨⟨q0, q1, q2, q3, q4⟩, -⟩ := rows5 B0.out
  have t0 : w1.cell? ⟨0, 7, none⟩ = some (.func (.func 48) #[] #[]) := HT1.out.2.2.2.2.2.2.2
  have hl1 : w.heap.size < w1.heap.size := blk_lt B0.out
  go_region_held3 (fun w' => w'.cell? ⟨0, 7, none⟩ = some (.func (.func 48) #[] #[]) ∧ w'.cell? ⟨w.heap.size, 0, none⟩ = some (.bool C) ∧ w'.cell? ⟨w.heap.size, 1, none⟩ = some (.bool Z) ∧ w'.cell? ⟨w.heap.size, 2, none⟩ = some (.bool S) ∧ w'.cell? ⟨w.heap.size, 3, none⟩ = some (.bool O) ∧ w'.cell? ⟨w.heap.size, 4, none⟩ = some (.bool P)) (first | go_keep | (simp [*]; done) | (refine ⟨?_, ?_, ?_, ?_, ?_, ?_⟩ <;> (refine (hb3.cell (p := ⟨_, _, none⟩) ?_).trans ?_ <;> first | assumption | (show 0 < w1.heap.size; omega) | (show w.heap.size < w1.heap.size; omega)))) (first | (go_at_call 48; refine (holds_calls 7 (by decide) C Z S O P _).mono ?_; rintro e w3 ⟨rfl, hb3⟩))
  all_goals have HB3 := Aside0.mk hb3
  all_goals clear hb3
  all_goals go_wp2_with fail
  all_goals go_ret
  all_goals exact ⟨rfl, (HB.out.trans (show Below w.heap.size w1 w1.drew from ⟨rfl, rfl, rfl, Nat.le_refl _, fun _ _ => rfl⟩)).trans (HB3.out.mono (show w.heap.size ≤ w1.heap.size by omega))⟩
def condF (C Z S O P : Bool) (cond : Int) : Bool := holdsF (cond / 2 % 8).toNat C Z S O P != (cond % 2 == 1)
theorem cond_calls (C Z S O P : Bool) (cond : Int) (h0 : 0 ≤ cond) (h2 : cond < 256) (w : World) (hT : Tab w) :
    Calls Tryd.prog 12 #[.agg #[.bool C, .bool Z, .bool S, .bool O, .bool P], .int .u8 cond] w fun e w' => e = .returned (.bool (condF C Z S O P cond)) ∧ Below w.heap.size w w' := by
  have h7 : Go.bits .and .u8 (cond / 2) 7 = cond / 2 % 8 := bits_mask .u8 8 (by decide) wraps_u8 3 (by decide) _ (by omega) (by omega)
  have h1 : Go.bits .and .u8 cond 1 = cond % 2 := bits_mask .u8 8 (by decide) wraps_u8 1 (by decide) _ h0 h2
  have h : cond / 2 % 8 = 0 ∨ cond / 2 % 8 = 1 ∨ cond / 2 % 8 = 2 ∨ cond / 2 % 8 = 3 ∨ cond / 2 % 8 = 4 ∨ cond / 2 % 8 = 5 ∨ cond / 2 % 8 = 6 ∨ cond / 2 % 8 = 7 := by omega
  unfold condF
  rcases h with h | h | h | h | h | h | h | h
  · rw [h] at h7 ⊢; exact cond_0 C Z S O P cond _ w hT h7 h1
  · rw [h] at h7 ⊢; exact cond_1 C Z S O P cond _ w hT h7 h1
  · rw [h] at h7 ⊢; exact cond_2 C Z S O P cond _ w hT h7 h1
  · rw [h] at h7 ⊢; exact cond_3 C Z S O P cond _ w hT h7 h1
  · rw [h] at h7 ⊢; exact cond_4 C Z S O P cond _ w hT h7 h1
  · rw [h] at h7 ⊢; exact cond_5 C Z S O P cond _ w hT h7 h1
  · rw [h] at h7 ⊢; exact cond_6 C Z S O P cond _ w hT h7 h1
  · rw [h] at h7 ⊢; exact cond_7 C Z S O P cond _ w hT h7 h1
end Go.Proofs.YtpmclnlgipphmaaDoor.B
namespace Go.Proofs.YtpmclnlgipphmaaDoor.B
open Go.RowKit Go.Proofs.YtpmclnlgipphmaaDoorW.PrintWords Go.Proofs.YtpmclnlgipphmaaDoorW.PrintMore Go.RF
set_option linter.unusedVariables false
set_option linter.unusedSimpArgs false
attribute [local go_sem] Oper.semAt_some
set_option maxHeartbeats 8000000 in
set_option maxRecDepth 100000 in
theorem get_calls (cs : Array Value) (r wd v m : Int) (i : Nat) (w : World) (hi : Go.bits .and .i64 r 15 = i) (hi1 : i < 16) (hv : cs[i]? = some (.int .u64 v)) (hm : cpu_mask.f wd = some m) :
    Calls Tryd.prog 8 #[.agg cs, .int .i64 r, .int .i64 wd] w fun e w' => e = .returned (.int .u64 (Go.bits .and .u64 v m)) ∧ Below w.heap.size w w' := by
  have hu29 := Tryd.underlying29
  have HM := Aside0.mk hm
  clear hm
  go_enter Tryd.func8, Tryd.ntmps8
  go_upto_region 1 with (fail)
  have b0 := World.alloc_heap_new w (.cells cs 29)
  have hbl : Below w.heap.size w (w.alloc (.cells cs 29)) := bX_ (Below.refl _ _) _
  have B0 := Aside0.mk b0
  have HB := Aside0.mk hbl
  clear b0 hbl
  generalize w.alloc (.cells cs 29) = w1 at *
  have q0 : w1.cell? ⟨w.heap.size, i, none⟩ = some (.int .u64 v) := by rw [bC_ B0.out]; exact hv
  have hi2 : decide ((i : Int) < 16) = true := decide_eq_true (by omega)
  have hi3 : (0 : Int) ≤ (i : Int) := by omega
  have hi4 : (i : Int) < 16 := by omega
  go_region_held3 (fun w' => w'.cell? ⟨w.heap.size, i, none⟩ = some (.int .u64 v)) (first | go_keep | (simp [*]; done)) (first | (go_at_call 17; refine (cpu_mask.calls wd m _ HM.out).mono ?_; rintro e w3 ⟨rfl, n3, rfl⟩))
  all_goals go_wp2_with fail
  all_goals go_ret
  all_goals exact ⟨rfl, HB.out.trans ⟨rfl, rfl, rfl, Nat.le_refl _, fun _ _ => rfl⟩⟩
def Z29 : Array Value := Array.replicate 16 (.int .u64 0) ++ Array.replicate 256 (.int .u8 0) ++ Array.replicate 5 (.bool false) ++ #[.int .u64 0]
theorem run_alloc29 (W : World) : (Instr.alloc 29 true (.tuple #[])).run Tryd.prog W = .ok (.pointer (some ⟨W.heap.size, 0, none⟩)) (W.alloc (.cells Z29 29 (0, 0))) := by kernel_rfl
theorem keeps_setRow (W : World) (g : Nat) (cs : Array Value) : Keeps (fun k => k = g) W (W.setRow g cs) := ⟨rfl, rfl, rfl, by simp, fun k _ hn => setRow_other W g k cs hn⟩
theorem all_set {cs : Array Value} (h : cs.all (·.oneCell') = true) (i : Nat) {v : Value} (hv : v.oneCell' = true) : (cs.setIfInBounds i v).all (·.oneCell') = true := by
  rw [Array.all_eq_true_iff_forall_mem] at h ⊢
  intro x hx
  rcases Array.mem_or_eq_of_mem_setIfInBounds hx with h1 | h1
  · exact h x h1
  · rw [h1]; exact hv
theorem size29 : (Tryd.prog.info? 29).map (·.size) = some 278 := by kernel_rfl
def keepF (wd v m : Int) : Int := if wd = 1 ∨ wd = 2 then Go.bits .andNot .u64 v m else 0
set_option maxHeartbeats 8000000 in
set_option maxRecDepth 100000 in
theorem set_calls (cs : Array Value) (r wd v m x : Int) (i : Nat) (w : World) (hsz : cs.size = 278) (h1c : cs.all (·.oneCell') = true) (hi : Go.bits .and .i64 r 15 = i) (hi1 : i < 16) (hv : cs[i]? = some (.int .u64 v)) (hm : cpu_mask.f wd = some m) :
    Calls Tryd.prog 7 #[.agg cs, .int .i64 r, .int .i64 wd, .int .u64 x] w fun e w' => e = .returned (.agg (cs.setIfInBounds i (.int .u64 (Go.bits .or .u64 (keepF wd v m) (Go.bits .and .u64 x m))))) ∧ Below w.heap.size w w' := by
  have hu29 := Tryd.underlying29
  have HM := Aside0.mk hm
  clear hm
  obtain ⟨nv, hnv0⟩ : ∃ k, Go.bits .or .u64 (keepF wd v m) (Go.bits .and .u64 x m) = k := ⟨_, rfl⟩
  rw [hnv0]
  have HNV := Aside0.mk hnv0
  clear hnv0
  obtain ⟨ds, hds⟩ : ∃ d, cs.setIfInBounds i (.int .u64 nv) = d := ⟨_, rfl⟩
  rw [hds]
  have HDS := Aside0.mk hds
  clear hds
  go_enter Tryd.func7, Tryd.ntmps7
  go_upto_region 1 with (first | ((with_reducible refine gate_dst (N := 8) rfl ?_); refine box_event rfl (N := 8) rfl (cs := Z29) (t := 29) (by show Sem.run Tryd.prog _ _ = _; simp only [execOp, Sem.run_bind, run_alloc29, Result.andThen_ok, Sem.run_pure]) ?_; intro g hg w2 hbox hb))
  (try simp only [Act.put, List.setIfInBounds_toArray, List.set_cons_zero, List.set_cons_succ])
  have b0 := blk_below (World.alloc_heap_new w (.cells cs 29)) hb
  rw [World.size_alloc] at hg
  have B0 := Aside0.mk b0
  have B8 := Aside0.mk hbox
  have HB := Aside0.mk ((bX_ (Below.refl w.heap.size w) (.cells cs 29)).trans (hb.mono (by rw [World.size_alloc]; omega)))
  have HG := Aside0.mk hg
  have HS := Aside0.mk (And.intro hsz h1c)
  clear b0 hbox hb hg hsz h1c
  go_upto_region 2 with (first | (go_at_call 17; refine (cpu_mask.calls wd m _ HM.out).mono ?_; rintro e w3 ⟨rfl, n3, rfl⟩))
  have B03 : Aside0 ((w2.drewN n3).heap[w.heap.size]? = some (.cells cs 29 (0, 0))) := ⟨B0.out⟩
  have B83 : Aside0 ((w2.drewN n3).heap[g]? = some (.cells Z29 29 (0, 0))) := ⟨B8.out⟩
  have HB3 : Aside0 (Below w.heap.size w (w2.drewN n3)) := ⟨HB.out.trans ⟨rfl, rfl, rfl, Nat.le_refl _, fun _ _ => rfl⟩⟩
  clear B0 B8 HB
  generalize w2.drewN n3 = w3 at *
  have hl : w.heap.size < w3.heap.size := blk_lt B03.out
  have q0 : w3.cell? ⟨w.heap.size, i, none⟩ = some (.int .u64 v) := by rw [bC_ B03.out]; exact hv
  have z0 : w3.frozen? ⟨w.heap.size, i, none⟩ = false := bF_ B03.out i
  have hi2 : (i : Int) < 16 := by omega
  have HV := Aside0.mk hv
  have HI := Aside0.mk hi1
  clear hv hi1
  by_cases c1 : wd = 1
  · have e1 : (wd == 1) = true := beq_iff_eq.mpr c1
    have C1 := Aside0.mk c1
    clear c1
    have hnv : Go.bits .or .u64 (Go.bits .andNot .u64 v m) (Go.bits .and .u64 x m) = nv := by rw [← HNV.out]; unfold keepF; rw [if_pos (.inl C1.out)]
    clear HNV
    go_upto_region 5 with (fail)
    have B04 : Aside0 ((w3.setCell ⟨w.heap.size, i, none⟩ (.int .u64 nv)).heap[w.heap.size]? = some (.cells ds 29 (0, 0))) := ⟨by rw [← HDS.out]; exact blk_set1 B03.out _ _⟩
    have hkp4 : Keeps (fun k => k = w.heap.size) w3 (w3.setCell ⟨w.heap.size, i, none⟩ (.int .u64 nv)) := (Keeps.refl _ _).setCell _ _ rfl
    have B84 : Aside0 ((w3.setCell ⟨w.heap.size, i, none⟩ (.int .u64 nv)).heap[g]? = some (.cells Z29 29 (0, 0))) := ⟨hkp4.at_ B83.out (by have := HG.out; omega)⟩
    have HB4 : Aside0 (Below w.heap.size w (w3.setCell ⟨w.heap.size, i, none⟩ (.int .u64 nv))) := ⟨HB3.out.trans (hkp4.below HB3.out.size (fun k hk h => by omega))⟩
    have HS4 : Aside0 (ds.size = 278 ∧ ds.all (·.oneCell') = true) := ⟨by rw [← HDS.out]; simpa using HS.out.1, by rw [← HDS.out]; exact all_set HS.out.2 i rfl⟩
    clear B03 B83 HB3 q0 z0 hkp4 hnv
    generalize w3.setCell ⟨w.heap.size, i, none⟩ (.int .u64 nv) = w4 at *
    have hin : (Tryd.prog.info? 29).map (·.size) = some ds.size := by rw [HS4.out.1]; exact size29
    have HIN := Aside0.mk hin
    clear hin
    go_wp2_with (first | (with_reducible refine wpList_load_row rfl 29 (.tmp 4) rfl w.heap.size rfl 29 ds (0, 0) _ B04.out hu29 rfl HIN.out ?_) | (with_reducible refine wpList_store_row rfl 29 (.tmp 8) (.tmp 35) rfl g ds rfl rfl 29 Z29 B84.out HIN.out (by rw [HS4.out.1]; kernel_rfl) HS4.out.2 ?_))
    refine bodyPost_ret (results_cell_row (p := 8) (ty := 29) rfl _ _ g 29 ds (0, 0) _ rfl (setRow_heap w4 g Z29 ds 29 (0, 0) B84.out) hu29 rfl HIN.out) rfl ⟨rfl, ?_⟩
    exact HB4.out.trans ((keeps_setRow w4 g ds).below HB4.out.size (fun k hk h => by have := HG.out; omega))
  · have e1 : (wd == 1) = false := beq_eq_false_iff_ne.mpr c1
    have C1 := Aside0.mk c1
    clear c1
    by_cases c2 : wd = 2
    · have e2 : (wd == 2) = true := beq_iff_eq.mpr c2
      have C2 := Aside0.mk c2
      clear c2
      have hnv : Go.bits .or .u64 (Go.bits .andNot .u64 v m) (Go.bits .and .u64 x m) = nv := by rw [← HNV.out]; unfold keepF; rw [if_pos (.inr C2.out)]
      clear HNV
      go_upto_region 5 with (fail)
      have B04 : Aside0 ((w3.setCell ⟨w.heap.size, i, none⟩ (.int .u64 nv)).heap[w.heap.size]? = some (.cells ds 29 (0, 0))) := ⟨by rw [← HDS.out]; exact blk_set1 B03.out _ _⟩
      have hkp4 : Keeps (fun k => k = w.heap.size) w3 (w3.setCell ⟨w.heap.size, i, none⟩ (.int .u64 nv)) := (Keeps.refl _ _).setCell _ _ rfl
      have B84 : Aside0 ((w3.setCell ⟨w.heap.size, i, none⟩ (.int .u64 nv)).heap[g]? = some (.cells Z29 29 (0, 0))) := ⟨hkp4.at_ B83.out (by have := HG.out; omega)⟩
      have HB4 : Aside0 (Below w.heap.size w (w3.setCell ⟨w.heap.size, i, none⟩ (.int .u64 nv))) := ⟨HB3.out.trans (hkp4.below HB3.out.size (fun k hk h => by omega))⟩
      have HS4 : Aside0 (ds.size = 278 ∧ ds.all (·.oneCell') = true) := ⟨by rw [← HDS.out]; simpa using HS.out.1, by rw [← HDS.out]; exact all_set HS.out.2 i rfl⟩
      clear B03 B83 HB3 q0 z0 hkp4 hnv
      generalize w3.setCell ⟨w.heap.size, i, none⟩ (.int .u64 nv) = w4 at *
      have hin : (Tryd.prog.info? 29).map (·.size) = some ds.size := by rw [HS4.out.1]; exact size29
      have HIN := Aside0.mk hin
      clear hin
      go_wp2_with (first | (with_reducible refine wpList_load_row rfl 29 (.tmp 4) rfl w.heap.size rfl 29 ds (0, 0) _ B04.out hu29 rfl HIN.out ?_) | (with_reducible refine wpList_store_row rfl 29 (.tmp 8) (.tmp 35) rfl g ds rfl rfl 29 Z29 B84.out HIN.out (by rw [HS4.out.1]; kernel_rfl) HS4.out.2 ?_))
      refine bodyPost_ret (results_cell_row (p := 8) (ty := 29) rfl _ _ g 29 ds (0, 0) _ rfl (setRow_heap w4 g Z29 ds 29 (0, 0) B84.out) hu29 rfl HIN.out) rfl ⟨rfl, ?_⟩
      exact HB4.out.trans ((keeps_setRow w4 g ds).below HB4.out.size (fun k hk h => by have := HG.out; omega))
    · have e2 : (wd == 2) = false := beq_eq_false_iff_ne.mpr c2
      have C2 := Aside0.mk c2
      clear c2
      have hnv : Go.bits .or .u64 (0) (Go.bits .and .u64 x m) = nv := by rw [← HNV.out]; unfold keepF; rw [if_neg (fun h => h.elim C1.out C2.out)]
      clear HNV
      go_upto_region 5 with (fail)
      have B04 : Aside0 ((w3.setCell ⟨w.heap.size, i, none⟩ (.int .u64 nv)).heap[w.heap.size]? = some (.cells ds 29 (0, 0))) := ⟨by rw [← HDS.out]; exact blk_set1 B03.out _ _⟩
      have hkp4 : Keeps (fun k => k = w.heap.size) w3 (w3.setCell ⟨w.heap.size, i, none⟩ (.int .u64 nv)) := (Keeps.refl _ _).setCell _ _ rfl
      have B84 : Aside0 ((w3.setCell ⟨w.heap.size, i, none⟩ (.int .u64 nv)).heap[g]? = some (.cells Z29 29 (0, 0))) := ⟨hkp4.at_ B83.out (by have := HG.out; omega)⟩
      have HB4 : Aside0 (Below w.heap.size w (w3.setCell ⟨w.heap.size, i, none⟩ (.int .u64 nv))) := ⟨HB3.out.trans (hkp4.below HB3.out.size (fun k hk h => by omega))⟩
      have HS4 : Aside0 (ds.size = 278 ∧ ds.all (·.oneCell') = true) := ⟨by rw [← HDS.out]; simpa using HS.out.1, by rw [← HDS.out]; exact all_set HS.out.2 i rfl⟩
      clear B03 B83 HB3 q0 z0 hkp4 hnv
      generalize w3.setCell ⟨w.heap.size, i, none⟩ (.int .u64 nv) = w4 at *
      have hin : (Tryd.prog.info? 29).map (·.size) = some ds.size := by rw [HS4.out.1]; exact size29
      have HIN := Aside0.mk hin
      clear hin
      go_wp2_with (first | (with_reducible refine wpList_load_row rfl 29 (.tmp 4) rfl w.heap.size rfl 29 ds (0, 0) _ B04.out hu29 rfl HIN.out ?_) | (with_reducible refine wpList_store_row rfl 29 (.tmp 8) (.tmp 35) rfl g ds rfl rfl 29 Z29 B84.out HIN.out (by rw [HS4.out.1]; kernel_rfl) HS4.out.2 ?_))
      refine bodyPost_ret (results_cell_row (p := 8) (ty := 29) rfl _ _ g 29 ds (0, 0) _ rfl (setRow_heap w4 g Z29 ds 29 (0, 0) B84.out) hu29 rfl HIN.out) rfl ⟨rfl, ?_⟩
      exact HB4.out.trans ((keeps_setRow w4 g ds).below HB4.out.size (fun k hk h => by have := HG.out; omega))
end Go.Proofs.YtpmclnlgipphmaaDoor.B
namespace Go.RF
open Go.RowKit
def IterT {α : Type} (P : Program) (g : Nat) (lb : Array Value) (encs : α → Array Value) (Q R : Nat → Prop) (L : List α) (W : World) : Prop :=
  ∀ (l : Nat) (J : List α → World → Prop), Stable Q J →
    (∀ pre x suf W1, L = pre ++ x :: suf → J pre W1 → YieldAt Fence.wide 0 P l (encs x) W1 fun e W2 => e = .returned (.bool true) ∧ J (pre ++ [x]) W2 ∧ Keeps (fun k => R k ∨ W.heap.size ≤ k) W1 W2) →
    J [] W →
    CallsIn Fence.wide 0 P g (#[.func (.yield l) #[] #[]] ++ lb) W fun e W' => (∃ v, e = .returned v) ∧ J L W'
def roundOn {α : Type} (S : Nat → Prop) (I : List α → World → Prop) (xs : List α) (W : World) : Exit → Act → World → Prop
  | .normal, _, W' => Keeps S W W' ∧ I xs W'
  | _, _, _ => False
theorem wp_rangeT {α : Type} {P : Program} {g : Operand} {ps : Array Tmp} {assign body : Code} {Q' : Exit → Act → World → Prop} {a : Act} {w : World}
    {gf : Nat} {lb : Array Value} (hg : a.eval g = .func (.func gf) #[] lb) (eg : ∀ args w, (callFunc gf args).run P w = .ok (.enter gf args) w)
    {encs : α → Array Value} {Q R : Nat → Prop} {L : List α} (hit : ∀ W, Keeps (fun _ => False) w W → IterT P gf lb encs Q R L W)
    (hQ : ∀ k, Q k → k < w.heap.size) (hR : ∀ k, R k → k < w.heap.size) (hps : ∀ x, (encs x).size = ps.size)
    (I : List α → World → Prop) (hI : Stable (fun k => Q k ∨ k = w.heap.size ∨ k = w.heap.size + 1) I)
    (h0 : I [] w) (a₁ : α → Act)
    (hassign : ∀ (l : Nat) (x : α) (W : World) (K : Act → World → Prop), K (a₁ x) W →
      assign.wpIn (Fence.wide.inRound l) 0 P (Exit.then K (fun _ _ _ => False)) { tmps := (ps.zip (encs x)).foldl (fun t (p, v) => t.setIfInBounds p v) a.tmps, defers := [] } W)
    (hbody : ∀ (l : Nat) (pre : List α) (x : α) (suf : List α) (W : World), L = pre ++ x :: suf → w.heap.size + 2 ≤ W.heap.size → I pre W →
      body.wpIn (Fence.wide.inRound l) 0 P (roundOn (fun k => R k ∨ w.heap.size + 2 ≤ k) I (pre ++ [x]) W) (a₁ x) W)
    (hdone : ∀ (W : World), I L W → W.heap[w.heap.size]? = some (.deferred (some [])) → Q' .normal { a with defers := { target := .collected w.heap.size, args := #[] } :: a.defers } W) :
    (Code.rangeFunc g ps assign body).wp P Q' a w := by
  refine (wpIn_wide (n := 0)).1 (wpIn_rangeFunc ?_)
  intro fn hfn
  obtain ⟨rec, hrec⟩ : ∃ rec : LoopState → Option Code → Loop, rec = fun st pe => { state := st, pending := pe, fn, tmps := a.tmps, params := ps, assign, body, defers := w.heap.size } := ⟨_, rfl⟩
  obtain ⟨W1, hW1⟩ : ∃ W1, (w.alloc (.deferred (some []))).alloc (.loop (rec .ready none)) = W1 := ⟨_, rfl⟩
  have hL1 : W1.heap[w.heap.size + 1]? = some (.loop (rec .ready none)) := by
    rw [← hW1]; have := World.alloc_heap_new (w.alloc (.deferred (some []))) (.loop (rec .ready none)); rwa [World.size_alloc] at this
  have hK1 : W1.heap[w.heap.size]? = some (.deferred (some [])) := by
    rw [← hW1]; exact (Below.heap_alloc _ _ _ (by simp)).trans (World.alloc_heap_new w _)
  have hs1 : W1.heap.size = w.heap.size + 2 := by rw [← hW1]; simp
  have hkp1 : Keeps (fun _ => False) w W1 := by rw [← hW1]; exact ((Keeps.refl _ w).alloc _).alloc _
  have hI1 : I [] W1 := hI _ _ _ h0 (hkp1.mono (fun _ _ h => h.elim))
  refine ⟨w.heap.size + 1, [{ target := .collected w.heap.size, args := #[] }], W1, { target := .fn (.func gf) lb, args := #[.func (.yield (w.heap.size + 1)) #[] #[]] }, W1, gf,
    #[.func (.yield (w.heap.size + 1)) #[] #[]] ++ lb, W1, ?_, ?_, ?_, ?_, fun h => by simp [Fence.wide] at h, ?_⟩
  · rw [← hW1, hrec]; exact run_enterLoop_outer _ _ _ _ _
  · simp only [resolve, hg]
    simp [go_sem]
  · intro f' _; trivial
  · simp [invoke, go_sem, eg]
  · have notQ : ∀ {k}, Q k → k ≠ w.heap.size ∧ k ≠ w.heap.size + 1 := fun h => by have := hQ _ h; omega
    refine (hit W1 hkp1 (w.heap.size + 1)
      (fun pre W => w.heap.size + 2 ≤ W.heap.size ∧ I pre W ∧ W.heap[w.heap.size + 1]? = some (.loop (rec .ready none)) ∧ W.heap[w.heap.size]? = some (.deferred (some [])))
      (fun s A B hs hk => ⟨Nat.le_trans hs.1 hk.size, hI s A B hs.2.1 (hk.mono (fun k _ h => .inl h)), hk.at_ hs.2.2.1 (fun h => (notQ h).2 rfl), hk.at_ hs.2.2.2 (fun h => (notQ h).1 rfl)⟩)
      ?_ ⟨by omega, hI1, hL1, hK1⟩).mono ?_
    · rintro pre x suf W hL ⟨hsz, hi, hl, hk⟩
      have hlt : w.heap.size + 1 < W.heap.size := by omega
      have hy := run_yield (P := P) (args := encs x) hl (by rw [hrec]; exact hps x)
      rw [hrec] at hy
      refine ⟨fn, _, assign, body, hy, roundIn_of_wpIn hfn (hassign _ x W _ ⟨_, run_beginRound hl (by rw [hrec]), ?_⟩)⟩
      have hl2 : (W.putObj (w.heap.size + 1) (.loop { rec .ready none with state := .busy })).heap[w.heap.size + 1]? = some (.loop { rec .ready none with state := .busy }) := World.putObj_heap_same hlt
      have hk2 : (W.putObj (w.heap.size + 1) (.loop { rec .ready none with state := .busy })).heap[w.heap.size]? = some (.deferred (some [])) := (World.putObj_heap_other (by omega)).trans hk
      have hw2 : ∀ (S : Nat → Prop), S (w.heap.size + 1) → Keeps S W (W.putObj (w.heap.size + 1) (.loop { rec .ready none with state := .busy })) := fun S hS => (Keeps.refl S W).putObj _ _ hS
      have notR : ∀ {k}, (R k ∨ w.heap.size + 2 ≤ k) → k ≠ w.heap.size ∧ k ≠ w.heap.size + 1 := fun h => by
        rcases h with h | h
        · have := hR _ h; omega
        · omega
      refine wpIn_mono (hbody _ pre x suf _ hL (by simp; omega) (hI _ _ _ hi (hw2 _ (.inr (.inr rfl))))) ?_
      have hback : ∀ (W3 : World) (o : Obj), w.heap.size + 2 ≤ W3.heap.size → Keeps (fun k => Q k ∨ k = w.heap.size ∨ k = w.heap.size + 1) W3 (W3.putObj (w.heap.size + 1) o) := fun W3 o _ => (Keeps.refl _ W3).putObj _ _ (.inr (.inr rfl))
      rintro e a3 W3 hp
      cases e with
      | normal =>
        obtain ⟨hk3, hi3⟩ := hp
        have hl3 := hk3.at_ hl2 (fun h => (notR h).2 rfl)
        have hz : w.heap.size + 2 ≤ W3.heap.size := by have := hk3.size; rw [World.putObj_size] at this; omega
        have hr := run_endRound (P := P) none hl3
        rw [hrec] at hr
        have hl4 : (W3.putObj (w.heap.size + 1) (.loop (rec .ready none))).heap[w.heap.size + 1]? = some (.loop (rec .ready none)) := World.putObj_heap_same (by omega)
        have hk4 : (W3.putObj (w.heap.size + 1) (.loop (rec .ready none))).heap[w.heap.size]? = some (.deferred (some [])) := (World.putObj_heap_other (by omega)).trans (hk3.at_ hk2 (fun h => (notR h).1 rfl))
        have hc : ∀ k, R k ∨ w.heap.size + 2 ≤ k → (R k ∨ W1.heap.size ≤ k) := fun k h => by rw [hs1]; exact h
        rw [hrec] at hl4 hk4
        refine ⟨_, _, hr, rfl, ⟨by simp; omega, hI _ _ _ hi3 (hback _ _ hz), by rw [hrec]; exact hl4, hk4⟩, ?_⟩
        refine ⟨hk3.os, hk3.tape, hk3.output, by have := hk3.size; simp at this ⊢; omega, fun k hk' hn => ?_⟩
        by_cases e : k = w.heap.size + 1
        · subst e; rw [hrec] at hl; exact hl4.trans hl.symm
        · rw [World.putObj_heap_other e, hk3.block k (by simp; omega) (fun h => hn (hc k h)), World.putObj_heap_other e]
      | ret => exact hp.elim
      | exit id => exact hp.elim
      | goto t => exact hp.elim
      | panic ch => exact hp.elim
      | outgrown => exact hp.elim
    · have hback : ∀ (W3 : World) (o : Obj), Keeps (fun k => Q k ∨ k = w.heap.size ∨ k = w.heap.size + 1) W3 (W3.putObj (w.heap.size + 1) o) := fun W3 o => (Keeps.refl _ W3).putObj _ _ (.inr (.inr rfl))
      rintro e W2 ⟨⟨v, rfl⟩, _, hi, hl, hk⟩
      exact ⟨none, _, by have := run_endLoop (P := P) hl (by rw [hrec]; simp); rw [hrec] at this; exact this, hdone _ (hI _ _ _ hi (hback _ _)) ((World.putObj_heap_other (by omega)).trans hk)⟩
end Go.RF
namespace Go.RF
set_option linter.unusedVariables false
open Go.RowKit
section
variable {F : Fence} {n : Nat} {P : Program} {ops : Array Oper} {Q : Exit → Act → World → Prop} {md : Region.Mode} {S : World → Prop}
def Told (P : Program) (ops : Array Oper) (S : World → Prop) (o : Oper) (v : Value) (a : Act) : Prop := YieldsIf P ops S o v a ∧ ∀ w, o.about P w a.eval = none
theorem Told.same {o : Oper} {v : Value} {a b : Act} (hy : Told P ops S o v a) (he : execOp b.eval o = execOp a.eval o)
    (hw : Region.wanted o (yielded ops b.tmps) = Region.wanted o (yielded ops a.tmps)) (hb : ∀ w, o.about P w b.eval = o.about P w a.eval) : Told P ops S o v b :=
  ⟨hy.1.of_same he hw, fun w => (hb w).trans (hy.2 w)⟩
theorem Told.step {i : Nat} {o : Oper} {v : Value} {a : Act} (hro : F.round = none) (hi : ops[i]? = some o) (hy : Told P ops S o v a) {K : Act → World → Prop} {w : World} (hS : S w)
    (h : K (a.put o.dst v) w) : wpOpIn F n P ops Q i K a w := by
  unfold wpOpIn
  have hab : ∀ f, o.about P w a.eval = some f → F.fn f := fun f hf => by rw [hy.2 w] at hf; cases hf
  simp only [hi]
  rcases hy.1 with ⟨hw, hv⟩ | ⟨hw, rfl⟩
  · rw [if_pos hw]
    exact ⟨hab, by rw [hro, Oper.semAt_none, hv w hS]; exact h⟩
  · rw [if_neg (by rw [hw]; decide)]
    exact ⟨hab, h⟩
theorem step_past {j : Nat} {oi oj : Oper} {v : Value} (hro : F.round = none) (hj : ops[j]? = some oj) (hap : oi.apart ops oj = true) (hsi : ∀ cs b, oi.op ≠ .select cs b) (hsj : ∀ cs b, oj.op ≠ .select cs b)
    (hQ : ∀ c a w, Q (.panic c) (a.put oi.dst v) w → Q (.panic c) a w) {K : Act → World → Prop} {a : Act} {w : World} (hy : Told P ops S oi v a) (h : wpOpIn F n P ops Q j K (a.put oi.dst v) w) :
    wpOpIn F n P ops Q j (fun b w' => Told P ops S oi v b ∧ K (b.put oi.dst v) w') a w := by
  obtain ⟨h1, h2, h3⟩ := Oper.apart_spec hap
  have put : ∀ u, Told P ops S oi v (a.put oj.dst u) := fun u => hy.same (execOp_put oi hsi a oj.dst u h3) (wanted_put oi a oj.dst u h3) (fun w => about_put oi w a oj.dst u h3)
  have swap : ∀ u w', K ((a.put oi.dst v).put oj.dst u) w' → Told P ops S oi v (a.put oj.dst u) ∧ K ((a.put oj.dst u).put oi.dst v) w' := fun u w' hk => ⟨put u, by rw [← Act.put_comm a v u h2]; exact hk⟩
  unfold wpOpIn at h ⊢
  simp only [hj] at h ⊢
  rw [wanted_put oj a oi.dst v h1, about_put oj w a oi.dst v h1] at h
  by_cases hw : Region.wanted oj (yielded ops a.tmps) = true
  · rw [if_pos hw] at h ⊢
    unfold Oper.wpIn at h ⊢
    rw [about_put oj w a oi.dst v h1, hro, Oper.semAt_none, execOp_put oj hsj a oi.dst v h1] at h
    rw [hro, Oper.semAt_none]
    refine ⟨h.1, ?_⟩
    replace h := h.2
    generalize (execOp a.eval oj).run P w = r at h ⊢
    rcases r with ⟨x, w'⟩ | ⟨x, w'⟩
    · cases x with
      | value u => exact swap u w' h
      | skip => exact swap _ w' h
      | defer d =>
        have hd : Told P ops S oi v { a with defers := d :: a.defers } := hy.same rfl rfl (fun _ => rfl)
        refine ⟨hd.same (execOp_put oi hsi _ oj.dst undef h3) (wanted_put oi _ oj.dst undef h3) (fun w => about_put oi w _ oj.dst undef h3), ?_⟩
        rw [← Act.put_comm _ v undef h2, ← Act.put_defers]
        exact h
      | enter f args =>
        refine ⟨h.1, CallsIn.mono h.2 fun e w2 he => ?_⟩
        cases e with
        | returned u => exact swap u w2 he
        | panicked c => exact hQ _ _ _ he
        | outgrown => exact he
      | row row args => exact ⟨h.1, RowsIn.mono h.2 fun u w2 he => swap u w2 he⟩
      | round l f tmps assign body =>
        refine ⟨h.1, RoundIn.mono h.2 fun e w2 he => ?_⟩
        cases e with
        | returned u => exact swap u w2 he
        | panicked c => exact hQ _ _ _ he
        | outgrown => exact he
      | _ => exact h
    · cases x with
      | panic u => exact hQ _ _ _ h
      | _ => exact h
  · rw [if_neg hw] at h ⊢
    exact ⟨h.1, swap _ w h.2⟩
def AnyH (F : Fence) (n : Nat) (P : Program) (md : Region.Mode) (ops : Array Oper) (Q : Exit → Act → World → Prop) (S : World → Prop) : Nat → Array Bool → Act → World → Prop
  | 0, listed, a, w => Region.ready md ops listed = [] ∧ Q .normal a w
  | fuel + 1, listed, a, w => (Region.ready md ops listed = [] → Q .normal a w) ∧ ∀ i ∈ Region.ready md ops listed, wpOpIn F n P ops Q i (fun b w' => S w' ∧ AnyH F n P md ops Q S fuel (listed.setIfInBounds i true) b w') a w
theorem AnyH.any : ∀ (fuel : Nat) (listed : Array Bool) (a : Act) (w : World), AnyH F n P md ops Q S fuel listed a w → wpAnyIn F n P md ops Q fuel listed a w
  | 0, _, _, _, h => h
  | fuel + 1, _, _, _, h => ⟨h.1, fun i hi => wpOpIn_mono (fun b w' h' => AnyH.any fuel _ b w' h'.2) (h.2 i hi)⟩
theorem AnyH.first {i : Nat} {oi : Oper} {v : Value} (hro : F.round = none) (hi : ops[i]? = some oi) (hsel : ∀ (j : Nat) (o : Oper) cs b, ops[j]? = some o → o.op ≠ .select cs b) (hQ : ∀ c a w, Q (.panic c) (a.put oi.dst v) w → Q (.panic c) a w) :
    ∀ (fuel : Nat) (listed : Array Bool) (a : Act) (w : World),
      (∀ j oj, ops[j]? = some oj → j ≠ i → listed.getD j true = false → (∀ e ∈ oj.after, Region.binds md e = true → e.on ≠ i) → oi.apart ops oj = true) →
      i ∈ Region.ready md ops listed → Told P ops S oi v a → S w → AnyH F n P md ops Q S fuel (listed.setIfInBounds i true) (a.put oi.dst v) w → AnyH F n P md ops Q S (fuel + 1) listed a w := by
  intro fuel
  induction fuel with
  | zero =>
    intro listed a w _ hr hy hS H
    refine ⟨fun h => (by rw [h] at hr; cases hr), fun j hj => ?_⟩
    by_cases hji : j = i
    · subst hji; exact hy.step hro hi hS ⟨hS, H⟩
    · have := ready_mono hj hji
      rw [H.1] at this
      cases this
  | succ fuel ih =>
    intro listed a w hfree hr hy hS H
    refine ⟨fun h => (by rw [h] at hr; cases hr), fun j hj => ?_⟩
    by_cases hji : j = i
    · subst hji; exact hy.step hro hi hS ⟨hS, H⟩
    · obtain ⟨hjun, oj, hoj, hall⟩ := mem_ready.1 hj
      have hnot : ∀ e ∈ oj.after, Region.binds md e = true → e.on ≠ i := fun e he hb heq => by
        have h1 := hall e he hb
        have h0 := (mem_ready.1 hr).1
        rw [heq] at h1
        rw [Array.getD_eq_getD_getElem?] at h0 h1
        cases hx : listed[i]? <;> simp_all
      have hfree' : ∀ k ok, ops[k]? = some ok → k ≠ i → (listed.setIfInBounds j true).getD k true = false → (∀ e ∈ ok.after, Region.binds md e = true → e.on ≠ i) → oi.apart ops ok = true := fun k ok hk hki hun hno => by
        refine hfree k ok hk hki ?_ hno
        by_cases hjk : j = k
        · subst hjk; exact hjun
        · rw [getD_set_ne true hjk] at hun; exact hun
      refine wpOpIn_mono (fun b w' h3 => ⟨h3.2.1, ih (listed.setIfInBounds j true) b w' hfree' (ready_mono hr (Ne.symm hji)) h3.1 h3.2.1 ?_⟩) (step_past hro hoj (hfree j oj hoj hji hjun hnot) (fun cs b => hsel i oi cs b hi) (fun cs b => hsel j oj cs b hoj) hQ hy (H.2 j (ready_mono hj hji)))
      rw [Array.setIfInBounds_comm _ _ hji]
      exact h3.2.2
theorem AnyH.take {i : Nat} {oi : Oper} {v : Value} {fuel : Nat} {listed : Array Bool} {a : Act} {w : World} (hro : F.round = none) (hi : ops[i]? = some oi) (hs : Region.noSelect ops = true) (hf : Region.free md ops listed i = true)
    (hr : (Region.ready md ops listed).contains i = true) (hQ : ∀ c a w, Q (.panic c) (a.put oi.dst v) w → Q (.panic c) a w) (hy : Told P ops S oi v a) (hS : S w)
    (h : AnyH F n P md ops Q S fuel (listed.setIfInBounds i true) (a.put oi.dst v) w) : AnyH F n P md ops Q S (fuel + 1) listed a w :=
  AnyH.first hro hi (Region.noSelect_spec hs) hQ fuel listed a w (Region.free_spec hi hf) (by simpa using hr) hy hS h
theorem AnyH.one {i : Nat} {o : Oper} {fuel : Nat} {listed : Array Bool} {a : Act} {w : World} (hi : ops[i]? = some o) (hr : Region.ready md ops listed = [i]) (hw : Region.wanted o (yielded ops a.tmps) = true)
    (h : o.wpIn F n P a w (fun b w' => S w' ∧ AnyH F n P md ops Q S fuel (listed.setIfInBounds i true) b w') Q) : AnyH F n P md ops Q S (fuel + 1) listed a w := by
  refine ⟨fun h0 => (by rw [hr] at h0; cases h0), fun j hj => ?_⟩
  rw [hr] at hj
  obtain rfl := List.mem_singleton.1 hj
  unfold wpOpIn
  simp only [hi]
  rw [if_pos hw]
  exact h
theorem AnyH.done {listed : Array Bool} {a : Act} {w : World} (hr : Region.ready md ops listed = []) (h : Q .normal a w) : ∀ fuel, AnyH F n P md ops Q S fuel listed a w
  | 0 => ⟨hr, h⟩
  | _ + 1 => ⟨fun _ => h, by rw [hr]; simp⟩
theorem AnyH.start {id : Nat} {a : Act} {w : World} (hm : P.follows .mixedOrders = true) (hro : F.round = none) (h : AnyH F n P .any ops Q S ops.size (Array.replicate ops.size false) a w.drew) : (Code.region id ops true).wpIn F n P Q a w :=
  wpIn_region_any hm (AnyH.any _ _ _ _ h)
end
end Go.RF
namespace Go.Proofs.YtpmclnlgipphmaaDoor.B
open Go.RowKit Go.Proofs.YtpmclnlgipphmaaDoorW.PrintWords Go.Proofs.YtpmclnlgipphmaaDoorW.PrintMore Go.RF
set_option linter.unusedVariables false
set_option linter.unusedSimpArgs false
attribute [local go_sem] Oper.semAt_some
def encU (x : Int) : Array Value := #[.int .u64 x]
theorem rows8 {W : World} {b : Nat} {v0 v1 v2 v3 v4 v5 v6 v7 : Value} {t : Nat} (h : W.heap[b]? = some (.cells #[v0, v1, v2, v3, v4, v5, v6, v7] t (0, 0))) :
    W.cell? ⟨b, 0, none⟩ = some v0 ∧ W.cell? ⟨b, 1, none⟩ = some v1 ∧ W.cell? ⟨b, 2, none⟩ = some v2 ∧ W.cell? ⟨b, 3, none⟩ = some v3 ∧ W.cell? ⟨b, 4, none⟩ = some v4 ∧ W.cell? ⟨b, 5, none⟩ = some v5 ∧ W.cell? ⟨b, 6, none⟩ = some v6 ∧ W.cell? ⟨b, 7, none⟩ = some v7 :=
  ⟨by rw [bC_ h]; rfl, by rw [bC_ h]; rfl, by rw [bC_ h]; rfl, by rw [bC_ h]; rfl, by rw [bC_ h]; rfl, by rw [bC_ h]; rfl, by rw [bC_ h]; rfl, by rw [bC_ h]; rfl⟩
def PtS (bo bn bc : Nat) (base idx sc dp nx xb xi : Int) (rip : Bool) (W : World) : Prop :=
  W.cell? ⟨bo, 2, none⟩ = some (.int .i64 base) ∧ W.cell? ⟨bo, 3, none⟩ = some (.int .i64 idx) ∧ W.cell? ⟨bo, 4, none⟩ = some (.int .i64 sc) ∧ W.cell? ⟨bo, 5, none⟩ = some (.int .i64 dp) ∧ W.cell? ⟨bo, 6, none⟩ = some (.bool rip) ∧ W.cell? ⟨bn, 0, none⟩ = some (.int .u64 nx)
    ∧ (0 ≤ base → W.cell? ⟨bc, base.toNat, none⟩ = some (.int .u64 xb)) ∧ (0 ≤ idx → W.cell? ⟨bc, idx.toNat, none⟩ = some (.int .u64 xi))
end Go.Proofs.YtpmclnlgipphmaaDoor.B
