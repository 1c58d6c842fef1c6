/- Words and walks that were printed. -/
import Derived.Test.YtppeidopijnnlaaDoorBq3
import Derived.Test.YtppeidopijnnlaaDoorBq4
import Derived.Test.YtppeidopijnnlaaDoorBq8
namespace Go.Proofs.YtppeidopijnnlaaDoor.B
open Go.RowKit Go.Proofs.YtppeidopijnnlaaDoorW.PrintWords Go.Proofs.YtppeidopijnnlaaDoorW.PrintLast Go.Proofs.YtppeidopijnnlaaDoorW.PrintMore
attribute [local go_sem] max2_int min2_int max_two min_two max_three min_three max_four min_four   -- for this text's walks alone
set_option linter.unusedVariables false
set_option linter.unusedSimpArgs false
attribute [local go_sem high] eqA23
noncomputable def l8_wakes.f  : Option (Bool) := (operand_Take.f (([193] : List Int)) 0).bind fun bt119 => ((operand_Take.f (([68, 36, 8, 99] : List Int)) 0).bind fun bt134 => ((operand_Mem.f 4 8).bind fun bt146 => ((operand_Put.f 9 bt146.1 bt146.2.1 bt146.2.2.1 bt146.2.2.2.1 bt146.2.2.2.2.1 bt146.2.2.2.2.2.1 bt146.2.2.2.2.2.2.1 bt146.2.2.2.2.2.2.2).bind fun bt154 => ((operand_Take.f ([] : List Int) 0).bind fun bt159 => (if bt119.1 = 0 then ((operand_Reg.f 1).bind fun bt171 => (if (bt119.2.1 == bt171.1 && (bt119.2.2.1 == bt171.2.1 && (bt119.2.2.2.1 == bt171.2.2.1 && (bt119.2.2.2.2.1 == bt171.2.2.2.1 && (bt119.2.2.2.2.2.1 == bt171.2.2.2.2.1 && (bt119.2.2.2.2.2.2.1 == bt171.2.2.2.2.2.1 && (bt119.2.2.2.2.2.2.2.1 == bt171.2.2.2.2.2.2.1 && (bt119.2.2.2.2.2.2.2.2.1 == bt171.2.2.2.2.2.2.2)))))))) = true then (if bt119.2.2.2.2.2.2.2.2.2.1 = 1 then (if bt119.2.2.2.2.2.2.2.2.2.2 = 0 then (if bt134.1 = 0 then ((operand_Mem.f 4 8).bind fun bt179 => (if (bt134.2.1 == bt179.1 && (bt134.2.2.1 == bt179.2.1 && (bt134.2.2.2.1 == bt179.2.2.1 && (bt134.2.2.2.2.1 == bt179.2.2.2.1 && (bt134.2.2.2.2.2.1 == bt179.2.2.2.2.1 && (bt134.2.2.2.2.2.2.1 == bt179.2.2.2.2.2.1 && (bt134.2.2.2.2.2.2.2.1 == bt179.2.2.2.2.2.2.1 && (bt134.2.2.2.2.2.2.2.2.1 == bt179.2.2.2.2.2.2.2)))))))) = true then (if bt134.2.2.2.2.2.2.2.2.2.1 = 3 then (if bt134.2.2.2.2.2.2.2.2.2.2 = 0 then (if (strOfNums bt154.1).toList = ([76, 36, 8] : List UInt8) then (if bt154.2.1 = 4 then (if bt154.2.2 = 0 then (some (bt159.2.2.2.2.2.2.2.2.2.2 == 80)) else (some false)) else (some false)) else (some false)) else (some false)) else (some false)) else (some false))) else (some false)) else (some false)) else (some false)) else (some false))) else (some false))))))
noncomputable def l8_wakes.T5 : Bool × List (List Nat × List Nat) := (true, [([], []), ([0], [0]), ([1], [1]), ([2], [2]), ([2, 2], [2]), ([3, 4, 2], [2, 3, 4]), ([2, 5], [2, 5]), ([6, 4], [6]), ([7], [7]), ([8, 7], [7, 8]), ([7, 9], [7, 9]), ([10, 7], [10]), ([11], [11]), ([12, 11], [11, 12]), ([11, 13], [11, 13]), ([14, 11], [14]), ([15], [15]), ([16, 15], [15, 16]), ([15, 17], [15, 17]), ([18, 15], [18]), ([19], [19]), ([19, 19], [19]), ([20, 21, 19], [19, 20, 21]), ([19, 22], [19, 22]), ([23, 21], [23]), ([24], [24]), ([25, 24], [24, 25]), ([24, 26], [24, 26]), ([27, 24], [27]), ([28], [28]), ([29, 28], [28, 29]), ([28, 30], [28, 30]), ([31, 28], [31]), ([32], [32]), ([33, 32], [32, 33]), ([34, 32], [32, 34]), ([32, 35], [32, 35]), ([36, 32], [36]), ([37], [37]), ([38, 37], [37, 38]), ([37, 39], [37, 39]), ([40, 37], [40]), ([41], [41]), ([42, 41], [41, 42]), ([41, 43], [41, 43]), ([44, 41], [44]), ([45], [45]), ([46, 45], [45, 46]), ([45, 47], [45, 47]), ([48, 45, 0, 1, 2, 3, 4, 5, 6, 7, 8, 9, 10, 11, 12, 13, 14, 15, 16, 17, 18, 19, 20, 21, 22, 23, 24, 25, 26, 27, 28, 29, 30, 31, 32, 33, 34, 35, 36, 37, 38, 39, 40, 41, 42, 43, 44, 45, 46, 47, 48], [48])])
noncomputable def l8_wakes.B5 : List Nat := [0, 1, 3, 7, 7, 31, 63, 127, 255, 511, 1023, 2047, 4095, 8191, 16383, 32767, 65535, 131071, 262143, 524287, 1048575, 1048575, 4194303, 8388607, 16777215, 33554431, 67108863, 134217727, 268435455, 536870911, 1073741823, 2147483647, 4294967295, 8589934591, 17179869183, 34359738367, 68719476735, 137438953471, 274877906943, 549755813887, 1099511627775, 2199023255551, 4398046511103, 8796093022207, 17592186044415, 35184372088831, 70368744177663, 140737488355327, 281474976710655, 562949953421311]
theorem l8_wakes.tab5 : rtab .any (opsOf Tryd.f8 5) = l8_wakes.T5 := by kernel_rfl
theorem l8_wakes.bits5 : waitsOk l8_wakes.T5.2 l8_wakes.B5 = true := by kernel_rfl
set_option maxHeartbeats 8000000 in
set_option maxRecDepth 100000 in
theorem l8_wakes.calls  (r : Bool) (w : World) (h : l8_wakes.f  = some r) :
    Calls Tryd.prog 8 #[] w fun e w' => e = .returned (.bool r) ∧ Below w.heap.size w w' := by
  have hu23 := Tryd.underlying23
  have HB := Aside0.mk (Below.refl w.heap.size w)
  have H : ((operand_Take.f (([193] : List Int)) 0).bind fun bt119 => ((operand_Take.f (([68, 36, 8, 99] : List Int)) 0).bind fun bt134 => ((operand_Mem.f 4 8).bind fun bt146 => ((operand_Put.f 9 bt146.1 bt146.2.1 bt146.2.2.1 bt146.2.2.2.1 bt146.2.2.2.2.1 bt146.2.2.2.2.2.1 bt146.2.2.2.2.2.2.1 bt146.2.2.2.2.2.2.2).bind fun bt154 => ((operand_Take.f ([] : List Int) 0).bind fun bt159 => (if bt119.1 = 0 then ((operand_Reg.f 1).bind fun bt171 => (if (bt119.2.1 == bt171.1 && (bt119.2.2.1 == bt171.2.1 && (bt119.2.2.2.1 == bt171.2.2.1 && (bt119.2.2.2.2.1 == bt171.2.2.2.1 && (bt119.2.2.2.2.2.1 == bt171.2.2.2.2.1 && (bt119.2.2.2.2.2.2.1 == bt171.2.2.2.2.2.1 && (bt119.2.2.2.2.2.2.2.1 == bt171.2.2.2.2.2.2.1 && (bt119.2.2.2.2.2.2.2.2.1 == bt171.2.2.2.2.2.2.2)))))))) = true then (if bt119.2.2.2.2.2.2.2.2.2.1 = 1 then (if bt119.2.2.2.2.2.2.2.2.2.2 = 0 then (if bt134.1 = 0 then ((operand_Mem.f 4 8).bind fun bt179 => (if (bt134.2.1 == bt179.1 && (bt134.2.2.1 == bt179.2.1 && (bt134.2.2.2.1 == bt179.2.2.1 && (bt134.2.2.2.2.1 == bt179.2.2.2.1 && (bt134.2.2.2.2.2.1 == bt179.2.2.2.2.1 && (bt134.2.2.2.2.2.2.1 == bt179.2.2.2.2.2.1 && (bt134.2.2.2.2.2.2.2.1 == bt179.2.2.2.2.2.2.1 && (bt134.2.2.2.2.2.2.2.2.1 == bt179.2.2.2.2.2.2.2)))))))) = true then (if bt134.2.2.2.2.2.2.2.2.2.1 = 3 then (if bt134.2.2.2.2.2.2.2.2.2.2 = 0 then (if (strOfNums bt154.1).toList = ([76, 36, 8] : List UInt8) then (if bt154.2.1 = 4 then (if bt154.2.2 = 0 then (some (bt159.2.2.2.2.2.2.2.2.2.2 == 80)) else (some false)) else (some false)) else (some false)) else (some false)) else (some false)) else (some false))) else (some false)) else (some false)) else (some false)) else (some false))) else (some false))))))) = some r := h
  clear h
  obtain ⟨y116, hy116⟩ : ∃ y_ : List Int, y_ = (([193] : List Int)) := ⟨_, rfl⟩
  replace H : ((operand_Take.f y116 0).bind fun bt119 => ((operand_Take.f (([68, 36, 8, 99] : List Int)) 0).bind fun bt134 => ((operand_Mem.f 4 8).bind fun bt146 => ((operand_Put.f 9 bt146.1 bt146.2.1 bt146.2.2.1 bt146.2.2.2.1 bt146.2.2.2.2.1 bt146.2.2.2.2.2.1 bt146.2.2.2.2.2.2.1 bt146.2.2.2.2.2.2.2).bind fun bt154 => ((operand_Take.f ([] : List Int) 0).bind fun bt159 => (if bt119.1 = 0 then ((operand_Reg.f 1).bind fun bt171 => (if (bt119.2.1 == bt171.1 && (bt119.2.2.1 == bt171.2.1 && (bt119.2.2.2.1 == bt171.2.2.1 && (bt119.2.2.2.2.1 == bt171.2.2.2.1 && (bt119.2.2.2.2.2.1 == bt171.2.2.2.2.1 && (bt119.2.2.2.2.2.2.1 == bt171.2.2.2.2.2.1 && (bt119.2.2.2.2.2.2.2.1 == bt171.2.2.2.2.2.2.1 && (bt119.2.2.2.2.2.2.2.2.1 == bt171.2.2.2.2.2.2.2)))))))) = true then (if bt119.2.2.2.2.2.2.2.2.2.1 = 1 then (if bt119.2.2.2.2.2.2.2.2.2.2 = 0 then (if bt134.1 = 0 then ((operand_Mem.f 4 8).bind fun bt179 => (if (bt134.2.1 == bt179.1 && (bt134.2.2.1 == bt179.2.1 && (bt134.2.2.2.1 == bt179.2.2.1 && (bt134.2.2.2.2.1 == bt179.2.2.2.1 && (bt134.2.2.2.2.2.1 == bt179.2.2.2.2.1 && (bt134.2.2.2.2.2.2.1 == bt179.2.2.2.2.2.1 && (bt134.2.2.2.2.2.2.2.1 == bt179.2.2.2.2.2.2.1 && (bt134.2.2.2.2.2.2.2.2.1 == bt179.2.2.2.2.2.2.2)))))))) = true then (if bt134.2.2.2.2.2.2.2.2.2.1 = 3 then (if bt134.2.2.2.2.2.2.2.2.2.2 = 0 then (if (strOfNums bt154.1).toList = ([76, 36, 8] : List UInt8) then (if bt154.2.1 = 4 then (if bt154.2.2 = 0 then (some (bt159.2.2.2.2.2.2.2.2.2.2 == 80)) else (some false)) else (some false)) else (some false)) else (some false)) else (some false)) else (some false))) else (some false)) else (some false)) else (some false)) else (some false))) else (some false))))))) = some r := by first | (rw [hy116]; with_reducible exact H) | (have H2_ := (Option.bind_some _ _).symm.trans H; rw [hy116]; with_reducible exact H2_) | (have H2_ := (Option.bind_some _ _).symm.trans H; with_reducible exact H2_) | with_reducible exact H | (rw [hy116]; exact H) | exact H
  have Ny116 := Aside0.mk hy116
  clear hy116
  replace H := Option.bind_eq_some_iff.mp H
  obtain ⟨⟨t119, t120, t121, t122, t123, t124, t125, t126, t127, t128, t129⟩, A10, H⟩ := H
  replace H : ((operand_Take.f (([68, 36, 8, 99] : List Int)) 0).bind fun bt134 => ((operand_Mem.f 4 8).bind fun bt146 => ((operand_Put.f 9 bt146.1 bt146.2.1 bt146.2.2.1 bt146.2.2.2.1 bt146.2.2.2.2.1 bt146.2.2.2.2.2.1 bt146.2.2.2.2.2.2.1 bt146.2.2.2.2.2.2.2).bind fun bt154 => ((operand_Take.f ([] : List Int) 0).bind fun bt159 => (if t119 = 0 then ((operand_Reg.f 1).bind fun bt171 => (if (t120 == bt171.1 && (t121 == bt171.2.1 && (t122 == bt171.2.2.1 && (t123 == bt171.2.2.2.1 && (t124 == bt171.2.2.2.2.1 && (t125 == bt171.2.2.2.2.2.1 && (t126 == bt171.2.2.2.2.2.2.1 && (t127 == bt171.2.2.2.2.2.2.2)))))))) = true then (if t128 = 1 then (if t129 = 0 then (if bt134.1 = 0 then ((operand_Mem.f 4 8).bind fun bt179 => (if (bt134.2.1 == bt179.1 && (bt134.2.2.1 == bt179.2.1 && (bt134.2.2.2.1 == bt179.2.2.1 && (bt134.2.2.2.2.1 == bt179.2.2.2.1 && (bt134.2.2.2.2.2.1 == bt179.2.2.2.2.1 && (bt134.2.2.2.2.2.2.1 == bt179.2.2.2.2.2.1 && (bt134.2.2.2.2.2.2.2.1 == bt179.2.2.2.2.2.2.1 && (bt134.2.2.2.2.2.2.2.2.1 == bt179.2.2.2.2.2.2.2)))))))) = true then (if bt134.2.2.2.2.2.2.2.2.2.1 = 3 then (if bt134.2.2.2.2.2.2.2.2.2.2 = 0 then (if (strOfNums bt154.1).toList = ([76, 36, 8] : List UInt8) then (if bt154.2.1 = 4 then (if bt154.2.2 = 0 then (some (bt159.2.2.2.2.2.2.2.2.2.2 == 80)) else (some false)) else (some false)) else (some false)) else (some false)) else (some false)) else (some false))) else (some false)) else (some false)) else (some false)) else (some false))) else (some false)))))) = some r := H
  have A1 := Aside0.mk A10
  clear A10
  obtain ⟨y131, hy131⟩ : ∃ y_ : List Int, y_ = (([68, 36, 8, 99] : List Int)) := ⟨_, rfl⟩
  replace H : ((operand_Take.f y131 0).bind fun bt134 => ((operand_Mem.f 4 8).bind fun bt146 => ((operand_Put.f 9 bt146.1 bt146.2.1 bt146.2.2.1 bt146.2.2.2.1 bt146.2.2.2.2.1 bt146.2.2.2.2.2.1 bt146.2.2.2.2.2.2.1 bt146.2.2.2.2.2.2.2).bind fun bt154 => ((operand_Take.f ([] : List Int) 0).bind fun bt159 => (if t119 = 0 then ((operand_Reg.f 1).bind fun bt171 => (if (t120 == bt171.1 && (t121 == bt171.2.1 && (t122 == bt171.2.2.1 && (t123 == bt171.2.2.2.1 && (t124 == bt171.2.2.2.2.1 && (t125 == bt171.2.2.2.2.2.1 && (t126 == bt171.2.2.2.2.2.2.1 && (t127 == bt171.2.2.2.2.2.2.2)))))))) = true then (if t128 = 1 then (if t129 = 0 then (if bt134.1 = 0 then ((operand_Mem.f 4 8).bind fun bt179 => (if (bt134.2.1 == bt179.1 && (bt134.2.2.1 == bt179.2.1 && (bt134.2.2.2.1 == bt179.2.2.1 && (bt134.2.2.2.2.1 == bt179.2.2.2.1 && (bt134.2.2.2.2.2.1 == bt179.2.2.2.2.1 && (bt134.2.2.2.2.2.2.1 == bt179.2.2.2.2.2.1 && (bt134.2.2.2.2.2.2.2.1 == bt179.2.2.2.2.2.2.1 && (bt134.2.2.2.2.2.2.2.2.1 == bt179.2.2.2.2.2.2.2)))))))) = true then (if bt134.2.2.2.2.2.2.2.2.2.1 = 3 then (if bt134.2.2.2.2.2.2.2.2.2.2 = 0 then (if (strOfNums bt154.1).toList = ([76, 36, 8] : List UInt8) then (if bt154.2.1 = 4 then (if bt154.2.2 = 0 then (some (bt159.2.2.2.2.2.2.2.2.2.2 == 80)) else (some false)) else (some false)) else (some false)) else (some false)) else (some false)) else (some false))) else (some false)) else (some false)) else (some false)) else (some false))) else (some false)))))) = some r := by first | (rw [hy131]; with_reducible exact H) | (have H2_ := (Option.bind_some _ _).symm.trans H; rw [hy131]; with_reducible exact H2_) | (have H2_ := (Option.bind_some _ _).symm.trans H; with_reducible exact H2_) | with_reducible exact H | (rw [hy131]; exact H) | exact H
  have Ny131 := Aside0.mk hy131
  clear hy131
  replace H := Option.bind_eq_some_iff.mp H
  obtain ⟨⟨t134, t135, t136, t137, t138, t139, t140, t141, t142, t143, t144⟩, A20, H⟩ := H
  replace H : ((operand_Mem.f 4 8).bind fun bt146 => ((operand_Put.f 9 bt146.1 bt146.2.1 bt146.2.2.1 bt146.2.2.2.1 bt146.2.2.2.2.1 bt146.2.2.2.2.2.1 bt146.2.2.2.2.2.2.1 bt146.2.2.2.2.2.2.2).bind fun bt154 => ((operand_Take.f ([] : List Int) 0).bind fun bt159 => (if t119 = 0 then ((operand_Reg.f 1).bind fun bt171 => (if (t120 == bt171.1 && (t121 == bt171.2.1 && (t122 == bt171.2.2.1 && (t123 == bt171.2.2.2.1 && (t124 == bt171.2.2.2.2.1 && (t125 == bt171.2.2.2.2.2.1 && (t126 == bt171.2.2.2.2.2.2.1 && (t127 == bt171.2.2.2.2.2.2.2)))))))) = true then (if t128 = 1 then (if t129 = 0 then (if t134 = 0 then ((operand_Mem.f 4 8).bind fun bt179 => (if (t135 == bt179.1 && (t136 == bt179.2.1 && (t137 == bt179.2.2.1 && (t138 == bt179.2.2.2.1 && (t139 == bt179.2.2.2.2.1 && (t140 == bt179.2.2.2.2.2.1 && (t141 == bt179.2.2.2.2.2.2.1 && (t142 == bt179.2.2.2.2.2.2.2)))))))) = true then (if t143 = 3 then (if t144 = 0 then (if (strOfNums bt154.1).toList = ([76, 36, 8] : List UInt8) then (if bt154.2.1 = 4 then (if bt154.2.2 = 0 then (some (bt159.2.2.2.2.2.2.2.2.2.2 == 80)) else (some false)) else (some false)) else (some false)) else (some false)) else (some false)) else (some false))) else (some false)) else (some false)) else (some false)) else (some false))) else (some false))))) = some r := H
  have A2 := Aside0.mk A20
  clear A20
  replace H := Option.bind_eq_some_iff.mp H
  obtain ⟨⟨t146, t147, t148, t149, t150, t151, t152, t153⟩, A30, H⟩ := H
  replace H : ((operand_Put.f 9 t146 t147 t148 t149 t150 t151 t152 t153).bind fun bt154 => ((operand_Take.f ([] : List Int) 0).bind fun bt159 => (if t119 = 0 then ((operand_Reg.f 1).bind fun bt171 => (if (t120 == bt171.1 && (t121 == bt171.2.1 && (t122 == bt171.2.2.1 && (t123 == bt171.2.2.2.1 && (t124 == bt171.2.2.2.2.1 && (t125 == bt171.2.2.2.2.2.1 && (t126 == bt171.2.2.2.2.2.2.1 && (t127 == bt171.2.2.2.2.2.2.2)))))))) = true then (if t128 = 1 then (if t129 = 0 then (if t134 = 0 then ((operand_Mem.f 4 8).bind fun bt179 => (if (t135 == bt179.1 && (t136 == bt179.2.1 && (t137 == bt179.2.2.1 && (t138 == bt179.2.2.2.1 && (t139 == bt179.2.2.2.2.1 && (t140 == bt179.2.2.2.2.2.1 && (t141 == bt179.2.2.2.2.2.2.1 && (t142 == bt179.2.2.2.2.2.2.2)))))))) = true then (if t143 = 3 then (if t144 = 0 then (if (strOfNums bt154.1).toList = ([76, 36, 8] : List UInt8) then (if bt154.2.1 = 4 then (if bt154.2.2 = 0 then (some (bt159.2.2.2.2.2.2.2.2.2.2 == 80)) else (some false)) else (some false)) else (some false)) else (some false)) else (some false)) else (some false))) else (some false)) else (some false)) else (some false)) else (some false))) else (some false)))) = some r := H
  have A3 := Aside0.mk A30
  clear A30
  replace H := Option.bind_eq_some_iff.mp H
  obtain ⟨⟨t154, t157, t158⟩, A40, H⟩ := H
  replace H : ((operand_Take.f ([] : List Int) 0).bind fun bt159 => (if t119 = 0 then ((operand_Reg.f 1).bind fun bt171 => (if (t120 == bt171.1 && (t121 == bt171.2.1 && (t122 == bt171.2.2.1 && (t123 == bt171.2.2.2.1 && (t124 == bt171.2.2.2.2.1 && (t125 == bt171.2.2.2.2.2.1 && (t126 == bt171.2.2.2.2.2.2.1 && (t127 == bt171.2.2.2.2.2.2.2)))))))) = true then (if t128 = 1 then (if t129 = 0 then (if t134 = 0 then ((operand_Mem.f 4 8).bind fun bt179 => (if (t135 == bt179.1 && (t136 == bt179.2.1 && (t137 == bt179.2.2.1 && (t138 == bt179.2.2.2.1 && (t139 == bt179.2.2.2.2.1 && (t140 == bt179.2.2.2.2.2.1 && (t141 == bt179.2.2.2.2.2.2.1 && (t142 == bt179.2.2.2.2.2.2.2)))))))) = true then (if t143 = 3 then (if t144 = 0 then (if (strOfNums t154).toList = ([76, 36, 8] : List UInt8) then (if t157 = 4 then (if t158 = 0 then (some (bt159.2.2.2.2.2.2.2.2.2.2 == 80)) else (some false)) else (some false)) else (some false)) else (some false)) else (some false)) else (some false))) else (some false)) else (some false)) else (some false)) else (some false))) else (some false))) = some r := H
  have A4 := Aside0.mk A40
  clear A40
  replace H := Option.bind_eq_some_iff.mp H
  obtain ⟨⟨t159, t160, t161, t162, t163, t164, t165, t166, t167, t168, t169⟩, A50, H⟩ := H
  replace H : (if t119 = 0 then ((operand_Reg.f 1).bind fun bt171 => (if (t120 == bt171.1 && (t121 == bt171.2.1 && (t122 == bt171.2.2.1 && (t123 == bt171.2.2.2.1 && (t124 == bt171.2.2.2.2.1 && (t125 == bt171.2.2.2.2.2.1 && (t126 == bt171.2.2.2.2.2.2.1 && (t127 == bt171.2.2.2.2.2.2.2)))))))) = true then (if t128 = 1 then (if t129 = 0 then (if t134 = 0 then ((operand_Mem.f 4 8).bind fun bt179 => (if (t135 == bt179.1 && (t136 == bt179.2.1 && (t137 == bt179.2.2.1 && (t138 == bt179.2.2.2.1 && (t139 == bt179.2.2.2.2.1 && (t140 == bt179.2.2.2.2.2.1 && (t141 == bt179.2.2.2.2.2.2.1 && (t142 == bt179.2.2.2.2.2.2.2)))))))) = true then (if t143 = 3 then (if t144 = 0 then (if (strOfNums t154).toList = ([76, 36, 8] : List UInt8) then (if t157 = 4 then (if t158 = 0 then (some (t169 == 80)) else (some false)) else (some false)) else (some false)) else (some false)) else (some false)) else (some false))) else (some false)) else (some false)) else (some false)) else (some false))) else (some false)) = some r := H
  have A5 := Aside0.mk A50
  clear A50
  by_cases c6 : t119 = 0
  · rw [if_pos c6] at H
    have c6b0 : (t119 == 0) = true := beq_iff_eq.mpr c6
    have c6b1 : (t119 != 0) = false := bne_eq_false_iff_eq.mpr c6
    clear c6
    replace H := Option.bind_eq_some_iff.mp H
    obtain ⟨⟨t171, t172, t173, t174, t175, t176, t177, t178⟩, A70, H⟩ := H
    replace H : (if (t120 == t171 && (t121 == t172 && (t122 == t173 && (t123 == t174 && (t124 == t175 && (t125 == t176 && (t126 == t177 && (t127 == t178)))))))) = true then (if t128 = 1 then (if t129 = 0 then (if t134 = 0 then ((operand_Mem.f 4 8).bind fun bt179 => (if (t135 == bt179.1 && (t136 == bt179.2.1 && (t137 == bt179.2.2.1 && (t138 == bt179.2.2.2.1 && (t139 == bt179.2.2.2.2.1 && (t140 == bt179.2.2.2.2.2.1 && (t141 == bt179.2.2.2.2.2.2.1 && (t142 == bt179.2.2.2.2.2.2.2)))))))) = true then (if t143 = 3 then (if t144 = 0 then (if (strOfNums t154).toList = ([76, 36, 8] : List UInt8) then (if t157 = 4 then (if t158 = 0 then (some (t169 == 80)) else (some false)) else (some false)) else (some false)) else (some false)) else (some false)) else (some false))) else (some false)) else (some false)) else (some false)) else (some false)) = some r := H
    have A7 := Aside0.mk A70
    clear A70
    by_cases c8 : (t120 == t171 && (t121 == t172 && (t122 == t173 && (t123 == t174 && (t124 == t175 && (t125 == t176 && (t126 == t177 && (t127 == t178)))))))) = true
    · rw [if_pos c8] at H
      have c8b0 : (t120 == t171 && (t121 == t172 && (t122 == t173 && (t123 == t174 && (t124 == t175 && (t125 == t176 && (t126 == t177 && (t127 == t178)))))))) = true := c8
      (try (have c8b1 : decide (t120 = t171 && (t121 == t172 && (t122 == t173 && (t123 == t174 && (t124 == t175 && (t125 == t176 && (t126 == t177 && (t127 == t178)))))))) = true := by simpa using c8))
      (try (have c8b2 : (t120 == t171 && (t121 == t172 && (t122 == t173 && (t123 == t174 && (t124 == t175 && (t125 == t176 && (t126 == t177 && (t127 == t178)))))))) = true := by simpa using c8))
      clear c8
      by_cases c9 : t128 = 1
      · rw [if_pos c9] at H
        have c9b0 : (t128 == 1) = true := beq_iff_eq.mpr c9
        have c9b1 : (t128 != 1) = false := bne_eq_false_iff_eq.mpr c9
        clear c9
        by_cases c10 : t129 = 0
        · rw [if_pos c10] at H
          have c10b0 : (t129 == 0) = true := beq_iff_eq.mpr c10
          have c10b1 : (t129 != 0) = false := bne_eq_false_iff_eq.mpr c10
          clear c10
          by_cases c11 : t134 = 0
          · rw [if_pos c11] at H
            have c11b0 : (t134 == 0) = true := beq_iff_eq.mpr c11
            have c11b1 : (t134 != 0) = false := bne_eq_false_iff_eq.mpr c11
            clear c11
            replace H := Option.bind_eq_some_iff.mp H
            obtain ⟨⟨t179, t180, t181, t182, t183, t184, t185, t186⟩, A120, H⟩ := H
            replace H : (if (t135 == t179 && (t136 == t180 && (t137 == t181 && (t138 == t182 && (t139 == t183 && (t140 == t184 && (t141 == t185 && (t142 == t186)))))))) = true then (if t143 = 3 then (if t144 = 0 then (if (strOfNums t154).toList = ([76, 36, 8] : List UInt8) then (if t157 = 4 then (if t158 = 0 then (some (t169 == 80)) else (some false)) else (some false)) else (some false)) else (some false)) else (some false)) else (some false)) = some r := H
            have A12 := Aside0.mk A120
            clear A120
            by_cases c13 : (t135 == t179 && (t136 == t180 && (t137 == t181 && (t138 == t182 && (t139 == t183 && (t140 == t184 && (t141 == t185 && (t142 == t186)))))))) = true
            · rw [if_pos c13] at H
              have c13b0 : (t135 == t179 && (t136 == t180 && (t137 == t181 && (t138 == t182 && (t139 == t183 && (t140 == t184 && (t141 == t185 && (t142 == t186)))))))) = true := c13
              (try (have c13b1 : decide (t135 = t179 && (t136 == t180 && (t137 == t181 && (t138 == t182 && (t139 == t183 && (t140 == t184 && (t141 == t185 && (t142 == t186)))))))) = true := by simpa using c13))
              (try (have c13b2 : (t135 == t179 && (t136 == t180 && (t137 == t181 && (t138 == t182 && (t139 == t183 && (t140 == t184 && (t141 == t185 && (t142 == t186)))))))) = true := by simpa using c13))
              clear c13
              by_cases c14 : t143 = 3
              · rw [if_pos c14] at H
                have c14b0 : (t143 == 3) = true := beq_iff_eq.mpr c14
                have c14b1 : (t143 != 3) = false := bne_eq_false_iff_eq.mpr c14
                clear c14
                by_cases c15 : t144 = 0
                · rw [if_pos c15] at H
                  have c15b0 : (t144 == 0) = true := beq_iff_eq.mpr c15
                  have c15b1 : (t144 != 0) = false := bne_eq_false_iff_eq.mpr c15
                  clear c15
                  by_cases c16 : (strOfNums t154).toList = ([76, 36, 8] : List UInt8)
                  · rw [if_pos c16] at H
                    have c16b0 : ((strOfNums t154).toList == ([76, 36, 8] : List UInt8)) = true := beq_iff_eq.mpr c16
                    have c16b1 : ((strOfNums t154).toList != ([76, 36, 8] : List UInt8)) = false := bne_eq_false_iff_eq.mpr c16
                    clear c16
                    by_cases c17 : t157 = 4
                    · rw [if_pos c17] at H
                      have c17b0 : (t157 == 4) = true := beq_iff_eq.mpr c17
                      have c17b1 : (t157 != 4) = false := bne_eq_false_iff_eq.mpr c17
                      clear c17
                      by_cases c18 : t158 = 0
                      · rw [if_pos c18] at H
                        have c18b0 : (t158 == 0) = true := beq_iff_eq.mpr c18
                        have c18b1 : (t158 != 0) = false := bne_eq_false_iff_eq.mpr c18
                        clear c18
                        obtain rfl := Option.some.inj H
                        go_enter Tryd.func8, Tryd.ntmps8
                        try go_wp2_with (first | ((with_reducible refine gate_dst (N := 17) rfl ?_); refine Kd.R_lit (Kd.int .u8) _ 5 ?hg (N := 17) ?hd (xs := ([193] : List Int)) (inner := [.int .u8 193]) (ok := fun _ => True) (okp := fun _ => True) ?hr ?hp (fun _ hk => hk) trivial (Below.refl _ _) (Nat.le_refl _) (by simp) ?_; (case hd => rfl); (case hg => rfl); (case hr => first | (go_simp; done) | (go_simp; rfl)); (case hp => exact (Reps.one (show Kd.M (Kd.int .u8) _ _ _ 193 [.int .u8 193] from rfl) (Reps.none _ _))); intro v117 w19 ho20 hb hg_ hnew_; clear hg_ hnew_; (first | rw [← Ny116.out] at ho20 | (simp only [Int.reduceToNat] at ho20; rw [← Ny116.out] at ho20)); have n0_ := Aside0.mk (Kd.R_lower ho20 (below_size (by repeat (first | (with_reducible first | exact HB.out | apply bX_ | apply bW_ | apply bY_) | exact HB.out)))); have n1_ := Aside0.mk (below_step (by repeat (first | (with_reducible first | exact HB.out | apply bX_ | apply bW_ | apply bY_) | exact HB.out)) hb); clear HB; have HO118 := n0_; have HB := n1_; clear n0_ n1_; clear hb ho20; obtain ⟨Ao21, co21, eo21⟩ := Kd.R_slice HO118.out; subst eo21) | ((with_reducible refine gate_callee (f := 11) rfl ?_); refine goesL_ (some 18) rfl rfl Tryd.func11 (by kernel_rfl) rfl #[.slice Ao21 y116.length co21, .int .u8 0] rfl (by (try simp only [List.map_toArray, List.map_cons, List.map_nil]); first | done | rfl | (simp only [List.length_drop, List.length_take]; rfl)) ?_; (with_reducible refine (operand_Take.calls _ _ y116 0 t119 t120 t121 t122 t123 t124 t125 t126 t127 t128 t129 _ ?side1 ?side2 A1.out).mono ?_); (case side1 => repeat (first | exact (Kd.R_reads' HO118.out).2.2 | (with_reducible refine Kd.C_alloc ?_ _) | (with_reducible refine Kd.C_drewN ?_ _) | (with_reducible refine Kd.C_drew ?_))); (case side2 => exact (Kd.R_reads' HO118.out).2.1); rintro e w22 ⟨rfl, hb⟩; refine ⟨_, rfl, ?_⟩; have n0_ := Aside0.mk (Kd.R_below (by (with_reducible repeat (first | apply Kd.R_alloc | apply Kd.R_drewN | apply Kd.R_drew)); exact HO118.out) hb); have n1_ := Aside0.mk (below_step (by repeat (first | (with_reducible first | exact HB.out | apply bX_ | apply bW_ | apply bY_) | exact HB.out)) hb); clear HO118; clear HB; have HO118 := n0_; have HB := n1_; clear n0_ n1_; (try clear hb); (try clear hb2); (try clear hk); (try clear hi)) | ((with_reducible refine gate_dst (N := 2) rfl ?_); refine box_event ?hg (N := 2) ?hd (cs := #[.int .u8 0, .int .i64 0, .int .i64 0, .int .i64 0, .int .i64 0, .int .i64 0, .bool false, .int .i64 0]) (t := 23) ?hr ?_; (case hd => rfl); (case hg => rfl); (case hr => first | (go_simp; done) | (go_simp; rfl)); intro gb130 hg w23 hbox hb; have n0_ := Aside0.mk (Kd.R_below (by (with_reducible repeat (first | apply Kd.R_alloc | apply Kd.R_drewN | apply Kd.R_drew)); exact HO118.out) hb); have n1_ := Aside0.mk (below_step (by repeat (first | (with_reducible first | exact HB.out | apply bX_ | apply bW_ | apply bY_) | exact HB.out)) hb); have n2_ := Aside0.mk (hbox); have n3_ := Aside0.mk ((by rw [hg]; exact (below_size (by repeat (first | (with_reducible first | exact HB.out | apply bX_ | apply bW_ | apply bY_) | exact HB.out))) : w.heap.size ≤ gb130)); have n4_ := Aside0.mk ((by rw [hg]; exact (below_size (by repeat (first | (with_reducible first | exact HB.out | apply bX_ | apply bW_ | apply bY_) | exact HB.out))) : w.heap.size ≤ gb130)); clear HO118; clear HB; have HO118 := n0_; have HB := n1_; have BK130 := n2_; have GW130 := n3_; have GE130 := n4_; clear n0_ n1_ n2_ n3_ n4_; clear hb hbox hg; have hcz24_0 : w23.cell? ⟨gb130, 0, none⟩ = some (.int .u8 0) := (bC_ BK130.out 0).trans rfl; have hcz24_1 : w23.cell? ⟨gb130, 1, none⟩ = some (.int .i64 0) := (bC_ BK130.out 1).trans rfl; have hcz24_2 : w23.cell? ⟨gb130, 2, none⟩ = some (.int .i64 0) := (bC_ BK130.out 2).trans rfl; have hcz24_3 : w23.cell? ⟨gb130, 3, none⟩ = some (.int .i64 0) := (bC_ BK130.out 3).trans rfl; have hcz24_4 : w23.cell? ⟨gb130, 4, none⟩ = some (.int .i64 0) := (bC_ BK130.out 4).trans rfl; have hcz24_5 : w23.cell? ⟨gb130, 5, none⟩ = some (.int .i64 0) := (bC_ BK130.out 5).trans rfl; have hcz24_6 : w23.cell? ⟨gb130, 6, none⟩ = some (.bool false) := (bC_ BK130.out 6).trans rfl; have hcz24_7 : w23.cell? ⟨gb130, 7, none⟩ = some (.int .i64 0) := (bC_ BK130.out 7).trans rfl; have hfz24_0 := bF_ BK130.out 0; have hfz24_1 := bF_ BK130.out 1; have hfz24_2 := bF_ BK130.out 2; have hfz24_3 := bF_ BK130.out 3; have hfz24_4 := bF_ BK130.out 4; have hfz24_5 := bF_ BK130.out 5; have hfz24_6 := bF_ BK130.out 6; have hfz24_7 := bF_ BK130.out 7) | ((with_reducible refine gate_dst (N := 24) rfl ?_); refine Kd.R_lit (Kd.int .u8) _ 5 ?hg (N := 24) ?hd (xs := ([68, 36, 8, 99] : List Int)) (inner := [.int .u8 68, .int .u8 36, .int .u8 8, .int .u8 99]) (ok := fun _ => True) (okp := fun _ => True) ?hr ?hp (fun _ hk => hk) trivial (Below.refl _ _) (Nat.le_refl _) (by simp) ?_; (case hd => rfl); (case hg => rfl); (case hr => first | (go_simp; done) | (go_simp; rfl)); (case hp => exact (Reps.one (show Kd.M (Kd.int .u8) _ _ _ 68 [.int .u8 68] from rfl) (Reps.one (show Kd.M (Kd.int .u8) _ _ _ 36 [.int .u8 36] from rfl) (Reps.one (show Kd.M (Kd.int .u8) _ _ _ 8 [.int .u8 8] from rfl) (Reps.one (show Kd.M (Kd.int .u8) _ _ _ 99 [.int .u8 99] from rfl) (Reps.none _ _)))))); intro v132 w25 ho26 hb hg_ hnew_; clear hg_ hnew_; (first | rw [← Ny131.out] at ho26 | (simp only [Int.reduceToNat] at ho26; rw [← Ny131.out] at ho26)); have n0_ := Aside0.mk (Kd.R_elder' (by (with_reducible repeat (first | apply Kd.R_alloc | apply Kd.R_drewN | apply Kd.R_drew)); exact (Kd.R_mono (Kd.R_far (p := ⟨gb130, 7, none⟩) (Kd.R_far (p := ⟨gb130, 6, none⟩) (Kd.R_far (p := ⟨gb130, 5, none⟩) (Kd.R_far (p := ⟨gb130, 4, none⟩) (Kd.R_far (p := ⟨gb130, 3, none⟩) (Kd.R_far (p := ⟨gb130, 2, none⟩) (Kd.R_far (p := ⟨gb130, 1, none⟩) (Kd.R_far (p := ⟨gb130, 0, none⟩) (Kd.R_types HO118.out BK130.out (by decide)) (fun _ hk => hk.2) (.int .u8 t120)) (fun _ hk => hk.2) (.int .i64 t121)) (fun _ hk => hk.2) (.int .i64 t122)) (fun _ hk => hk.2) (.int .i64 t123)) (fun _ hk => hk.2) (.int .i64 t124)) (fun _ hk => hk.2) (.int .i64 t125)) (fun _ hk => hk.2) (.bool t126)) (fun _ hk => hk.2) (.int .i64 t127)) (fun _ h_ => h_.1))) (by first | exact Kd.R_base ho26 | exact Kd.R_base (Kd.S_R ho26) | exact Kd.R_base ho26) hb); have n1_ := Aside0.mk (Kd.R_lower (Kd.R_new' ho26 (Kd.R_lt (by (with_reducible repeat (first | apply Kd.R_alloc | apply Kd.R_drewN | apply Kd.R_drew)); exact (Kd.R_mono (Kd.R_far (p := ⟨gb130, 7, none⟩) (Kd.R_far (p := ⟨gb130, 6, none⟩) (Kd.R_far (p := ⟨gb130, 5, none⟩) (Kd.R_far (p := ⟨gb130, 4, none⟩) (Kd.R_far (p := ⟨gb130, 3, none⟩) (Kd.R_far (p := ⟨gb130, 2, none⟩) (Kd.R_far (p := ⟨gb130, 1, none⟩) (Kd.R_far (p := ⟨gb130, 0, none⟩) (Kd.R_types HO118.out BK130.out (by decide)) (fun _ hk => hk.2) (.int .u8 t120)) (fun _ hk => hk.2) (.int .i64 t121)) (fun _ hk => hk.2) (.int .i64 t122)) (fun _ hk => hk.2) (.int .i64 t123)) (fun _ hk => hk.2) (.int .i64 t124)) (fun _ hk => hk.2) (.int .i64 t125)) (fun _ hk => hk.2) (.bool t126)) (fun _ hk => hk.2) (.int .i64 t127)) (fun _ h_ => h_.1))))) (below_size (by repeat (first | (with_reducible first | exact HB.out | apply bX_ | apply bW_ | apply bY_ | refine bS_ ?_ GE130.out) | exact HB.out)))); have n2_ := Aside0.mk (blk_below (g := gb130) (o := .cells #[.int .u8 t120, .int .i64 t121, .int .i64 t122, .int .i64 t123, .int .i64 t124, .int .i64 t125, .bool t126, .int .i64 t127] 23 (0, 0)) (by (with_reducible repeat (first | refine bN_ ?_ _ | refine bD_ ?_ | refine bA_ ?_ _)); refine blk_put (cs := #[.int .u8 t120, .int .i64 t121, .int .i64 t122, .int .i64 t123, .int .i64 t124, .int .i64 t125, .bool t126, .int .i64 0]) ?_ 7 _ rfl; (with_reducible repeat (first | refine bN_ ?_ _ | refine bD_ ?_ | refine bA_ ?_ _)); refine blk_put (cs := #[.int .u8 t120, .int .i64 t121, .int .i64 t122, .int .i64 t123, .int .i64 t124, .int .i64 t125, .bool false, .int .i64 0]) ?_ 6 _ rfl; (with_reducible repeat (first | refine bN_ ?_ _ | refine bD_ ?_ | refine bA_ ?_ _)); refine blk_put (cs := #[.int .u8 t120, .int .i64 t121, .int .i64 t122, .int .i64 t123, .int .i64 t124, .int .i64 0, .bool false, .int .i64 0]) ?_ 5 _ rfl; (with_reducible repeat (first | refine bN_ ?_ _ | refine bD_ ?_ | refine bA_ ?_ _)); refine blk_put (cs := #[.int .u8 t120, .int .i64 t121, .int .i64 t122, .int .i64 t123, .int .i64 0, .int .i64 0, .bool false, .int .i64 0]) ?_ 4 _ rfl; (with_reducible repeat (first | refine bN_ ?_ _ | refine bD_ ?_ | refine bA_ ?_ _)); refine blk_put (cs := #[.int .u8 t120, .int .i64 t121, .int .i64 t122, .int .i64 0, .int .i64 0, .int .i64 0, .bool false, .int .i64 0]) ?_ 3 _ rfl; (with_reducible repeat (first | refine bN_ ?_ _ | refine bD_ ?_ | refine bA_ ?_ _)); refine blk_put (cs := #[.int .u8 t120, .int .i64 t121, .int .i64 0, .int .i64 0, .int .i64 0, .int .i64 0, .bool false, .int .i64 0]) ?_ 2 _ rfl; (with_reducible repeat (first | refine bN_ ?_ _ | refine bD_ ?_ | refine bA_ ?_ _)); refine blk_put (cs := #[.int .u8 t120, .int .i64 0, .int .i64 0, .int .i64 0, .int .i64 0, .int .i64 0, .bool false, .int .i64 0]) ?_ 1 _ rfl; (with_reducible repeat (first | refine bN_ ?_ _ | refine bD_ ?_ | refine bA_ ?_ _)); refine blk_put (cs := #[.int .u8 0, .int .i64 0, .int .i64 0, .int .i64 0, .int .i64 0, .int .i64 0, .bool false, .int .i64 0]) ?_ 0 _ rfl; (with_reducible repeat (first | refine bN_ ?_ _ | refine bD_ ?_ | refine bA_ ?_ _)); exact BK130.out) hb); have n3_ := Aside0.mk (below_step (by repeat (first | (with_reducible first | exact HB.out | apply bX_ | apply bW_ | apply bY_ | refine bS_ ?_ GE130.out) | exact HB.out)) hb); clear HO118; clear BK130; clear HB; have HO118 := n0_; have HO133 := n1_; have BK130 := n2_; have HB := n3_; clear n0_ n1_ n2_ n3_; clear hb ho26; obtain ⟨Ao27, co27, eo27⟩ := Kd.R_slice HO133.out; subst eo27) | ((with_reducible refine gate_callee (f := 11) rfl ?_); refine goesL_ (some 25) rfl rfl Tryd.func11 (by kernel_rfl) rfl #[.slice Ao27 y131.length co27, .int .u8 0] rfl (by (try simp only [List.map_toArray, List.map_cons, List.map_nil]); first | done | rfl | (simp only [List.length_drop, List.length_take]; rfl)) ?_; (with_reducible refine (operand_Take.calls _ _ y131 0 t134 t135 t136 t137 t138 t139 t140 t141 t142 t143 t144 _ ?side1 ?side2 A2.out).mono ?_); (case side1 => repeat (first | exact (Kd.R_reads' HO133.out).2.2 | (with_reducible refine Kd.C_alloc ?_ _) | (with_reducible refine Kd.C_drewN ?_ _) | (with_reducible refine Kd.C_drew ?_))); (case side2 => exact (Kd.R_reads' HO133.out).2.1); rintro e w28 ⟨rfl, hb⟩; refine ⟨_, rfl, ?_⟩; have n0_ := Aside0.mk (Kd.R_below (by (with_reducible repeat (first | apply Kd.R_alloc | apply Kd.R_drewN | apply Kd.R_drew)); exact HO118.out) hb); have n1_ := Aside0.mk (Kd.R_below (by (with_reducible repeat (first | apply Kd.R_alloc | apply Kd.R_drewN | apply Kd.R_drew)); exact HO133.out) hb); have n2_ := Aside0.mk (blk_below (g := gb130) (o := .cells #[.int .u8 t120, .int .i64 t121, .int .i64 t122, .int .i64 t123, .int .i64 t124, .int .i64 t125, .bool t126, .int .i64 t127] 23 (0, 0)) (by (with_reducible repeat (first | refine bN_ ?_ _ | refine bD_ ?_ | refine bA_ ?_ _)); exact BK130.out) hb); have n3_ := Aside0.mk (below_step (by repeat (first | (with_reducible first | exact HB.out | apply bX_ | apply bW_ | apply bY_ | refine bS_ ?_ GE130.out) | exact HB.out)) hb); clear HO118; clear HO133; clear BK130; clear HB; have HO118 := n0_; have HO133 := n1_; have BK130 := n2_; have HB := n3_; clear n0_ n1_ n2_ n3_; (try clear hb); (try clear hb2); (try clear hk); (try clear hi)) | ((with_reducible refine gate_dst (N := 6) rfl ?_); refine box_event ?hg (N := 6) ?hd (cs := #[.int .u8 0, .int .i64 0, .int .i64 0, .int .i64 0, .int .i64 0, .int .i64 0, .bool false, .int .i64 0]) (t := 23) ?hr ?_; (case hd => rfl); (case hg => rfl); (case hr => first | (go_simp; done) | (go_simp; rfl)); intro gb145 hg w29 hbox hb; have n0_ := Aside0.mk (Kd.R_below (by (with_reducible repeat (first | apply Kd.R_alloc | apply Kd.R_drewN | apply Kd.R_drew)); exact HO118.out) hb); have n1_ := Aside0.mk (Kd.R_below (by (with_reducible repeat (first | apply Kd.R_alloc | apply Kd.R_drewN | apply Kd.R_drew)); exact HO133.out) hb); have n2_ := Aside0.mk (blk_below (g := gb130) (o := .cells #[.int .u8 t120, .int .i64 t121, .int .i64 t122, .int .i64 t123, .int .i64 t124, .int .i64 t125, .bool t126, .int .i64 t127] 23 (0, 0)) (by (with_reducible repeat (first | refine bN_ ?_ _ | refine bD_ ?_ | refine bA_ ?_ _)); exact BK130.out) hb); have n3_ := Aside0.mk (below_step (by repeat (first | (with_reducible first | exact HB.out | apply bX_ | apply bW_ | apply bY_ | refine bS_ ?_ GE130.out) | exact HB.out)) hb); have n4_ := Aside0.mk (hbox); have n5_ := Aside0.mk ((by rw [hg]; exact (below_size (by repeat (first | (with_reducible first | exact HB.out | apply bX_ | apply bW_ | apply bY_ | refine bS_ ?_ GE130.out) | exact HB.out))) : w.heap.size ≤ gb145)); have n6_ := Aside0.mk ((by rw [hg]; exact (below_size (by repeat (first | (with_reducible first | exact HB.out | apply bX_ | apply bW_ | apply bY_ | refine bS_ ?_ GE130.out) | exact HB.out))) : w.heap.size ≤ gb145)); have n7_ := Aside0.mk ((by rw [hg]; exact Nat.ne_of_lt (blk_lt (g := gb130) (o := .cells #[.int .u8 t120, .int .i64 t121, .int .i64 t122, .int .i64 t123, .int .i64 t124, .int .i64 t125, .bool t126, .int .i64 t127] 23 (0, 0)) (by (with_reducible repeat (first | refine bN_ ?_ _ | refine bD_ ?_ | refine bA_ ?_ _)); exact BK130.out)) : gb130 ≠ gb145)); have n8_ := Aside0.mk ((by rw [hg]; exact Nat.ne_of_gt (blk_lt (g := gb130) (o := .cells #[.int .u8 t120, .int .i64 t121, .int .i64 t122, .int .i64 t123, .int .i64 t124, .int .i64 t125, .bool t126, .int .i64 t127] 23 (0, 0)) (by (with_reducible repeat (first | refine bN_ ?_ _ | refine bD_ ?_ | refine bA_ ?_ _)); exact BK130.out)) : gb145 ≠ gb130)); clear HO118; clear HO133; clear BK130; clear HB; have HO118 := n0_; have HO133 := n1_; have BK130 := n2_; have HB := n3_; have BK145 := n4_; have GW145 := n5_; have GE145 := n6_; have NB130_145 := n7_; have NB145_130 := n8_; clear n0_ n1_ n2_ n3_ n4_ n5_ n6_ n7_ n8_; clear hb hbox hg; have hnb30 := NB145_130.out; have hnc30 := NB130_145.out; have hcz31_0 : w29.cell? ⟨gb145, 0, none⟩ = some (.int .u8 0) := (bC_ BK145.out 0).trans rfl; have hcz31_1 : w29.cell? ⟨gb145, 1, none⟩ = some (.int .i64 0) := (bC_ BK145.out 1).trans rfl; have hcz31_2 : w29.cell? ⟨gb145, 2, none⟩ = some (.int .i64 0) := (bC_ BK145.out 2).trans rfl; have hcz31_3 : w29.cell? ⟨gb145, 3, none⟩ = some (.int .i64 0) := (bC_ BK145.out 3).trans rfl; have hcz31_4 : w29.cell? ⟨gb145, 4, none⟩ = some (.int .i64 0) := (bC_ BK145.out 4).trans rfl; have hcz31_5 : w29.cell? ⟨gb145, 5, none⟩ = some (.int .i64 0) := (bC_ BK145.out 5).trans rfl; have hcz31_6 : w29.cell? ⟨gb145, 6, none⟩ = some (.bool false) := (bC_ BK145.out 6).trans rfl; have hcz31_7 : w29.cell? ⟨gb145, 7, none⟩ = some (.int .i64 0) := (bC_ BK145.out 7).trans rfl; have hfz31_0 := bF_ BK145.out 0; have hfz31_1 := bF_ BK145.out 1; have hfz31_2 := bF_ BK145.out 2; have hfz31_3 := bF_ BK145.out 3; have hfz31_4 := bF_ BK145.out 4; have hfz31_5 := bF_ BK145.out 5; have hfz31_6 := bF_ BK145.out 6; have hfz31_7 := bF_ BK145.out 7) | ((with_reducible refine gate_callee (f := 21) rfl ?_); refine goesL_ (some 31) rfl rfl Tryd.func21 (by kernel_rfl) rfl #[.int .i64 4, .int .i64 8] rfl (by (try simp only [List.map_toArray, List.map_cons, List.map_nil]); first | done | rfl | (simp only [List.length_drop, List.length_take]; rfl)) ?_; (with_reducible refine (operand_Mem.calls 4 8 t146 t147 t148 t149 t150 t151 t152 t153 _ A3.out).mono ?_); rintro e w32 ⟨rfl, hb⟩; refine ⟨_, rfl, ?_⟩; have n0_ := Aside0.mk (Kd.R_below (by (with_reducible repeat (first | apply Kd.R_alloc | apply Kd.R_drewN | apply Kd.R_drew)); exact (Kd.R_mono (Kd.R_far (p := ⟨gb145, 7, none⟩) (Kd.R_far (p := ⟨gb145, 6, none⟩) (Kd.R_far (p := ⟨gb145, 5, none⟩) (Kd.R_far (p := ⟨gb145, 4, none⟩) (Kd.R_far (p := ⟨gb145, 3, none⟩) (Kd.R_far (p := ⟨gb145, 2, none⟩) (Kd.R_far (p := ⟨gb145, 1, none⟩) (Kd.R_far (p := ⟨gb145, 0, none⟩) (Kd.R_types HO118.out BK145.out (by decide)) (fun _ hk => hk.2) (.int .u8 t135)) (fun _ hk => hk.2) (.int .i64 t136)) (fun _ hk => hk.2) (.int .i64 t137)) (fun _ hk => hk.2) (.int .i64 t138)) (fun _ hk => hk.2) (.int .i64 t139)) (fun _ hk => hk.2) (.int .i64 t140)) (fun _ hk => hk.2) (.bool t141)) (fun _ hk => hk.2) (.int .i64 t142)) (fun _ h_ => h_.1))) hb); have n1_ := Aside0.mk (Kd.R_below (by (with_reducible repeat (first | apply Kd.R_alloc | apply Kd.R_drewN | apply Kd.R_drew)); exact (Kd.R_mono (Kd.R_far (p := ⟨gb145, 7, none⟩) (Kd.R_far (p := ⟨gb145, 6, none⟩) (Kd.R_far (p := ⟨gb145, 5, none⟩) (Kd.R_far (p := ⟨gb145, 4, none⟩) (Kd.R_far (p := ⟨gb145, 3, none⟩) (Kd.R_far (p := ⟨gb145, 2, none⟩) (Kd.R_far (p := ⟨gb145, 1, none⟩) (Kd.R_far (p := ⟨gb145, 0, none⟩) (Kd.R_types HO133.out BK145.out (by decide)) (fun _ hk => hk.2) (.int .u8 t135)) (fun _ hk => hk.2) (.int .i64 t136)) (fun _ hk => hk.2) (.int .i64 t137)) (fun _ hk => hk.2) (.int .i64 t138)) (fun _ hk => hk.2) (.int .i64 t139)) (fun _ hk => hk.2) (.int .i64 t140)) (fun _ hk => hk.2) (.bool t141)) (fun _ hk => hk.2) (.int .i64 t142)) (fun _ h_ => h_.1))) hb); have n2_ := Aside0.mk (blk_below (g := gb130) (o := .cells #[.int .u8 t120, .int .i64 t121, .int .i64 t122, .int .i64 t123, .int .i64 t124, .int .i64 t125, .bool t126, .int .i64 t127] 23 (0, 0)) (by (with_reducible repeat (first | refine bN_ ?_ _ | refine bD_ ?_ | refine bA_ ?_ _)); refine blk_far ?_ NB130_145.out _; (with_reducible repeat (first | refine bN_ ?_ _ | refine bD_ ?_ | refine bA_ ?_ _)); refine blk_far ?_ NB130_145.out _; (with_reducible repeat (first | refine bN_ ?_ _ | refine bD_ ?_ | refine bA_ ?_ _)); refine blk_far ?_ NB130_145.out _; (with_reducible repeat (first | refine bN_ ?_ _ | refine bD_ ?_ | refine bA_ ?_ _)); refine blk_far ?_ NB130_145.out _; (with_reducible repeat (first | refine bN_ ?_ _ | refine bD_ ?_ | refine bA_ ?_ _)); refine blk_far ?_ NB130_145.out _; (with_reducible repeat (first | refine bN_ ?_ _ | refine bD_ ?_ | refine bA_ ?_ _)); refine blk_far ?_ NB130_145.out _; (with_reducible repeat (first | refine bN_ ?_ _ | refine bD_ ?_ | refine bA_ ?_ _)); refine blk_far ?_ NB130_145.out _; (with_reducible repeat (first | refine bN_ ?_ _ | refine bD_ ?_ | refine bA_ ?_ _)); refine blk_far ?_ NB130_145.out _; (with_reducible repeat (first | refine bN_ ?_ _ | refine bD_ ?_ | refine bA_ ?_ _)); exact BK130.out) hb); have n3_ := Aside0.mk (blk_below (g := gb145) (o := .cells #[.int .u8 t135, .int .i64 t136, .int .i64 t137, .int .i64 t138, .int .i64 t139, .int .i64 t140, .bool t141, .int .i64 t142] 23 (0, 0)) (by (with_reducible repeat (first | refine bN_ ?_ _ | refine bD_ ?_ | refine bA_ ?_ _)); refine blk_put (cs := #[.int .u8 t135, .int .i64 t136, .int .i64 t137, .int .i64 t138, .int .i64 t139, .int .i64 t140, .bool t141, .int .i64 0]) ?_ 7 _ rfl; (with_reducible repeat (first | refine bN_ ?_ _ | refine bD_ ?_ | refine bA_ ?_ _)); refine blk_put (cs := #[.int .u8 t135, .int .i64 t136, .int .i64 t137, .int .i64 t138, .int .i64 t139, .int .i64 t140, .bool false, .int .i64 0]) ?_ 6 _ rfl; (with_reducible repeat (first | refine bN_ ?_ _ | refine bD_ ?_ | refine bA_ ?_ _)); refine blk_put (cs := #[.int .u8 t135, .int .i64 t136, .int .i64 t137, .int .i64 t138, .int .i64 t139, .int .i64 0, .bool false, .int .i64 0]) ?_ 5 _ rfl; (with_reducible repeat (first | refine bN_ ?_ _ | refine bD_ ?_ | refine bA_ ?_ _)); refine blk_put (cs := #[.int .u8 t135, .int .i64 t136, .int .i64 t137, .int .i64 t138, .int .i64 0, .int .i64 0, .bool false, .int .i64 0]) ?_ 4 _ rfl; (with_reducible repeat (first | refine bN_ ?_ _ | refine bD_ ?_ | refine bA_ ?_ _)); refine blk_put (cs := #[.int .u8 t135, .int .i64 t136, .int .i64 t137, .int .i64 0, .int .i64 0, .int .i64 0, .bool false, .int .i64 0]) ?_ 3 _ rfl; (with_reducible repeat (first | refine bN_ ?_ _ | refine bD_ ?_ | refine bA_ ?_ _)); refine blk_put (cs := #[.int .u8 t135, .int .i64 t136, .int .i64 0, .int .i64 0, .int .i64 0, .int .i64 0, .bool false, .int .i64 0]) ?_ 2 _ rfl; (with_reducible repeat (first | refine bN_ ?_ _ | refine bD_ ?_ | refine bA_ ?_ _)); refine blk_put (cs := #[.int .u8 t135, .int .i64 0, .int .i64 0, .int .i64 0, .int .i64 0, .int .i64 0, .bool false, .int .i64 0]) ?_ 1 _ rfl; (with_reducible repeat (first | refine bN_ ?_ _ | refine bD_ ?_ | refine bA_ ?_ _)); refine blk_put (cs := #[.int .u8 0, .int .i64 0, .int .i64 0, .int .i64 0, .int .i64 0, .int .i64 0, .bool false, .int .i64 0]) ?_ 0 _ rfl; (with_reducible repeat (first | refine bN_ ?_ _ | refine bD_ ?_ | refine bA_ ?_ _)); exact BK145.out) hb); have n4_ := Aside0.mk (below_step (by repeat (first | (with_reducible first | exact HB.out | apply bX_ | apply bW_ | apply bY_ | refine bS_ ?_ GE130.out | refine bS_ ?_ GE145.out) | exact HB.out)) hb); clear HO118; clear HO133; clear BK130; clear BK145; clear HB; have HO118 := n0_; have HO133 := n1_; have BK130 := n2_; have BK145 := n3_; have HB := n4_; clear n0_ n1_ n2_ n3_ n4_; (try clear hb); (try clear hb2); (try clear hk); (try clear hi)) | ((with_reducible refine gate_callee (f := 9) rfl ?_); refine goesL_ (some 32) rfl rfl Tryd.func9 (by kernel_rfl) rfl #[.int .i64 9, .agg #[.int .u8 t146, .int .i64 t147, .int .i64 t148, .int .i64 t149, .int .i64 t150, .int .i64 t151, .bool t152, .int .i64 t153]] rfl (by (try simp only [List.map_toArray, List.map_cons, List.map_nil]); first | done | rfl | (simp only [List.length_drop, List.length_take]; rfl)) ?_; (with_reducible refine (operand_Put.calls 9 t146 t147 t148 t149 t150 t151 t152 t153 t154 t157 t158 _ A4.out).mono ?_); rintro e w33 ⟨v155, rfl, ho0, hb⟩; refine ⟨_, rfl, ?_⟩; have n0_ := Aside0.mk (Kd.R_elder' (by (with_reducible repeat (first | apply Kd.R_alloc | apply Kd.R_drewN | apply Kd.R_drew)); exact HO118.out) (by first | exact Kd.R_base ho0 | exact Kd.R_base (Kd.S_R ho0) | exact Kd.R_base ho0) hb); have n1_ := Aside0.mk (Kd.R_elder' (by (with_reducible repeat (first | apply Kd.R_alloc | apply Kd.R_drewN | apply Kd.R_drew)); exact HO133.out) (by first | exact Kd.R_base ho0 | exact Kd.R_base (Kd.S_R ho0) | exact Kd.R_base ho0) hb); have n2_ := Aside0.mk (Kd.R_lower (Kd.R_new' (Kd.R_new' ho0 (Kd.R_lt (by (with_reducible repeat (first | apply Kd.R_alloc | apply Kd.R_drewN | apply Kd.R_drew)); exact HO118.out))) (Kd.R_lt (by (with_reducible repeat (first | apply Kd.R_alloc | apply Kd.R_drewN | apply Kd.R_drew)); exact HO133.out))) (below_size (by repeat (first | (with_reducible first | exact HB.out | apply bX_ | apply bW_ | apply bY_ | refine bS_ ?_ GE130.out | refine bS_ ?_ GE145.out) | exact HB.out)))); have n3_ := Aside0.mk (blk_below (g := gb130) (o := .cells #[.int .u8 t120, .int .i64 t121, .int .i64 t122, .int .i64 t123, .int .i64 t124, .int .i64 t125, .bool t126, .int .i64 t127] 23 (0, 0)) (by (with_reducible repeat (first | refine bN_ ?_ _ | refine bD_ ?_ | refine bA_ ?_ _)); exact BK130.out) hb); have n4_ := Aside0.mk (blk_below (g := gb145) (o := .cells #[.int .u8 t135, .int .i64 t136, .int .i64 t137, .int .i64 t138, .int .i64 t139, .int .i64 t140, .bool t141, .int .i64 t142] 23 (0, 0)) (by (with_reducible repeat (first | refine bN_ ?_ _ | refine bD_ ?_ | refine bA_ ?_ _)); exact BK145.out) hb); have n5_ := Aside0.mk (below_step (by repeat (first | (with_reducible first | exact HB.out | apply bX_ | apply bW_ | apply bY_ | refine bS_ ?_ GE130.out | refine bS_ ?_ GE145.out) | exact HB.out)) hb); clear HO118; clear HO133; clear BK130; clear BK145; clear HB; have HO118 := n0_; have HO133 := n1_; have HO156 := n2_; have BK130 := n3_; have BK145 := n4_; have HB := n5_; clear n0_ n1_ n2_ n3_ n4_ n5_; (try clear hb); (try clear hb2); (try clear hk); (try clear hi); (try clear ho0)) | ((with_reducible refine gate_callee (f := 11) rfl ?_); refine goesL_ (some 37) rfl rfl Tryd.func11 (by kernel_rfl) rfl #[.slice none 0 0, .int .u8 0] rfl (by (try simp only [List.map_toArray, List.map_cons, List.map_nil]); first | done | rfl | (simp only [List.length_drop, List.length_take]; rfl)) ?_; (refine (operand_Take.calls _ _ ([] : List Int) 0 t159 t160 t161 t162 t163 t164 t165 t166 t167 t168 t169 _ ?side1 ?side2 A5.out).mono ?_); (case side1 => exact Kd.C_nil _ _); (case side2 => exact Nat.le_refl _); rintro e w34 ⟨rfl, hb⟩; refine ⟨_, rfl, ?_⟩; have n0_ := Aside0.mk (Kd.R_below (by (with_reducible repeat (first | apply Kd.R_alloc | apply Kd.R_drewN | apply Kd.R_drew)); exact HO118.out) hb); have n1_ := Aside0.mk (Kd.R_below (by (with_reducible repeat (first | apply Kd.R_alloc | apply Kd.R_drewN | apply Kd.R_drew)); exact HO133.out) hb); have n2_ := Aside0.mk (Kd.R_below (by (with_reducible repeat (first | apply Kd.R_alloc | apply Kd.R_drewN | apply Kd.R_drew)); exact HO156.out) hb); have n3_ := Aside0.mk (blk_below (g := gb130) (o := .cells #[.int .u8 t120, .int .i64 t121, .int .i64 t122, .int .i64 t123, .int .i64 t124, .int .i64 t125, .bool t126, .int .i64 t127] 23 (0, 0)) (by (with_reducible repeat (first | refine bN_ ?_ _ | refine bD_ ?_ | refine bA_ ?_ _)); exact BK130.out) hb); have n4_ := Aside0.mk (blk_below (g := gb145) (o := .cells #[.int .u8 t135, .int .i64 t136, .int .i64 t137, .int .i64 t138, .int .i64 t139, .int .i64 t140, .bool t141, .int .i64 t142] 23 (0, 0)) (by (with_reducible repeat (first | refine bN_ ?_ _ | refine bD_ ?_ | refine bA_ ?_ _)); exact BK145.out) hb); have n5_ := Aside0.mk (below_step (by repeat (first | (with_reducible first | exact HB.out | apply bX_ | apply bW_ | apply bY_ | refine bS_ ?_ GE130.out | refine bS_ ?_ GE145.out) | exact HB.out)) hb); clear HO118; clear HO133; clear HO156; clear BK130; clear BK145; clear HB; have HO118 := n0_; have HO133 := n1_; have HO156 := n2_; have BK130 := n3_; have BK145 := n4_; have HB := n5_; clear n0_ n1_ n2_ n3_ n4_ n5_; (try clear hb); (try clear hb2); (try clear hk); (try clear hi)) | ((with_reducible refine gate_dst (N := 13) rfl ?_); refine box_event ?hg (N := 13) ?hd (cs := #[.int .u8 0, .int .i64 0, .int .i64 0, .int .i64 0, .int .i64 0, .int .i64 0, .bool false, .int .i64 0]) (t := 23) ?hr ?_; (case hd => rfl); (case hg => rfl); (case hr => first | (go_simp; done) | (go_simp; rfl)); intro gb170 hg w35 hbox hb; have n0_ := Aside0.mk (Kd.R_below (by (with_reducible repeat (first | apply Kd.R_alloc | apply Kd.R_drewN | apply Kd.R_drew)); exact HO118.out) hb); have n1_ := Aside0.mk (Kd.R_below (by (with_reducible repeat (first | apply Kd.R_alloc | apply Kd.R_drewN | apply Kd.R_drew)); exact HO133.out) hb); have n2_ := Aside0.mk (Kd.R_below (by (with_reducible repeat (first | apply Kd.R_alloc | apply Kd.R_drewN | apply Kd.R_drew)); exact HO156.out) hb); have n3_ := Aside0.mk (blk_below (g := gb130) (o := .cells #[.int .u8 t120, .int .i64 t121, .int .i64 t122, .int .i64 t123, .int .i64 t124, .int .i64 t125, .bool t126, .int .i64 t127] 23 (0, 0)) (by (with_reducible repeat (first | refine bN_ ?_ _ | refine bD_ ?_ | refine bA_ ?_ _)); exact BK130.out) hb); have n4_ := Aside0.mk (blk_below (g := gb145) (o := .cells #[.int .u8 t135, .int .i64 t136, .int .i64 t137, .int .i64 t138, .int .i64 t139, .int .i64 t140, .bool t141, .int .i64 t142] 23 (0, 0)) (by (with_reducible repeat (first | refine bN_ ?_ _ | refine bD_ ?_ | refine bA_ ?_ _)); exact BK145.out) hb); have n5_ := Aside0.mk (below_step (by repeat (first | (with_reducible first | exact HB.out | apply bX_ | apply bW_ | apply bY_ | refine bS_ ?_ GE130.out | refine bS_ ?_ GE145.out) | exact HB.out)) hb); have n6_ := Aside0.mk (hbox); have n7_ := Aside0.mk ((by rw [hg]; exact (below_size (by repeat (first | (with_reducible first | exact HB.out | apply bX_ | apply bW_ | apply bY_ | refine bS_ ?_ GE130.out | refine bS_ ?_ GE145.out) | exact HB.out))) : w.heap.size ≤ gb170)); have n8_ := Aside0.mk ((by rw [hg]; exact (below_size (by repeat (first | (with_reducible first | exact HB.out | apply bX_ | apply bW_ | apply bY_ | refine bS_ ?_ GE130.out | refine bS_ ?_ GE145.out) | exact HB.out))) : w.heap.size ≤ gb170)); have n9_ := Aside0.mk ((by rw [hg]; exact Nat.ne_of_lt (blk_lt (g := gb130) (o := .cells #[.int .u8 t120, .int .i64 t121, .int .i64 t122, .int .i64 t123, .int .i64 t124, .int .i64 t125, .bool t126, .int .i64 t127] 23 (0, 0)) (by (with_reducible repeat (first | refine bN_ ?_ _ | refine bD_ ?_ | refine bA_ ?_ _)); exact BK130.out)) : gb130 ≠ gb170)); have n10_ := Aside0.mk ((by rw [hg]; exact Nat.ne_of_gt (blk_lt (g := gb130) (o := .cells #[.int .u8 t120, .int .i64 t121, .int .i64 t122, .int .i64 t123, .int .i64 t124, .int .i64 t125, .bool t126, .int .i64 t127] 23 (0, 0)) (by (with_reducible repeat (first | refine bN_ ?_ _ | refine bD_ ?_ | refine bA_ ?_ _)); exact BK130.out)) : gb170 ≠ gb130)); have n11_ := Aside0.mk ((by rw [hg]; exact Nat.ne_of_lt (blk_lt (g := gb145) (o := .cells #[.int .u8 t135, .int .i64 t136, .int .i64 t137, .int .i64 t138, .int .i64 t139, .int .i64 t140, .bool t141, .int .i64 t142] 23 (0, 0)) (by (with_reducible repeat (first | refine bN_ ?_ _ | refine bD_ ?_ | refine bA_ ?_ _)); exact BK145.out)) : gb145 ≠ gb170)); have n12_ := Aside0.mk ((by rw [hg]; exact Nat.ne_of_gt (blk_lt (g := gb145) (o := .cells #[.int .u8 t135, .int .i64 t136, .int .i64 t137, .int .i64 t138, .int .i64 t139, .int .i64 t140, .bool t141, .int .i64 t142] 23 (0, 0)) (by (with_reducible repeat (first | refine bN_ ?_ _ | refine bD_ ?_ | refine bA_ ?_ _)); exact BK145.out)) : gb170 ≠ gb145)); clear HO118; clear HO133; clear HO156; clear BK130; clear BK145; clear HB; have HO118 := n0_; have HO133 := n1_; have HO156 := n2_; have BK130 := n3_; have BK145 := n4_; have HB := n5_; have BK170 := n6_; have GW170 := n7_; have GE170 := n8_; have NB130_170 := n9_; have NB170_130 := n10_; have NB145_170 := n11_; have NB170_145 := n12_; clear n0_ n1_ n2_ n3_ n4_ n5_ n6_ n7_ n8_ n9_ n10_ n11_ n12_; clear hb hbox hg; have hnb36 := NB170_130.out; have hnc36 := NB130_170.out; have hnb37 := NB170_145.out; have hnc37 := NB145_170.out; have hcz38_0 : w35.cell? ⟨gb170, 0, none⟩ = some (.int .u8 0) := (bC_ BK170.out 0).trans rfl; have hcz38_1 : w35.cell? ⟨gb170, 1, none⟩ = some (.int .i64 0) := (bC_ BK170.out 1).trans rfl; have hcz38_2 : w35.cell? ⟨gb170, 2, none⟩ = some (.int .i64 0) := (bC_ BK170.out 2).trans rfl; have hcz38_3 : w35.cell? ⟨gb170, 3, none⟩ = some (.int .i64 0) := (bC_ BK170.out 3).trans rfl; have hcz38_4 : w35.cell? ⟨gb170, 4, none⟩ = some (.int .i64 0) := (bC_ BK170.out 4).trans rfl; have hcz38_5 : w35.cell? ⟨gb170, 5, none⟩ = some (.int .i64 0) := (bC_ BK170.out 5).trans rfl; have hcz38_6 : w35.cell? ⟨gb170, 6, none⟩ = some (.bool false) := (bC_ BK170.out 6).trans rfl; have hcz38_7 : w35.cell? ⟨gb170, 7, none⟩ = some (.int .i64 0) := (bC_ BK170.out 7).trans rfl; have hfz38_0 := bF_ BK170.out 0; have hfz38_1 := bF_ BK170.out 1; have hfz38_2 := bF_ BK170.out 2; have hfz38_3 := bF_ BK170.out 3; have hfz38_4 := bF_ BK170.out 4; have hfz38_5 := bF_ BK170.out 5; have hfz38_6 := bF_ BK170.out 6; have hfz38_7 := bF_ BK170.out 7))
                        have n0_ : Aside0 (Kd.R (Kd.int .u8) 5 ((((((((w35.setCell ⟨gb170, 0, none⟩ (.int .u8 t160)).setCell ⟨gb170, 1, none⟩ (.int .i64 t161)).setCell ⟨gb170, 2, none⟩ (.int .i64 t162)).setCell ⟨gb170, 3, none⟩ (.int .i64 t163)).setCell ⟨gb170, 4, none⟩ (.int .i64 t164)).setCell ⟨gb170, 5, none⟩ (.int .i64 t165)).setCell ⟨gb170, 6, none⟩ (.bool t166)).setCell ⟨gb170, 7, none⟩ (.int .i64 t167)) w.heap.size (fun k_ => some k_ ≠ (.slice Ao27 y131.length co27 : Value).ownBlock ∧ some k_ ≠ (v155 : Value).ownBlock) (.slice Ao21 y116.length co21) y116) := ⟨by (with_reducible repeat (first | apply Kd.R_alloc | apply Kd.R_drewN | apply Kd.R_drew)); exact Kd.R_mono (Kd.R_far (p := ⟨gb170, 7, none⟩) (Kd.R_far (p := ⟨gb170, 6, none⟩) (Kd.R_far (p := ⟨gb170, 5, none⟩) (Kd.R_far (p := ⟨gb170, 4, none⟩) (Kd.R_far (p := ⟨gb170, 3, none⟩) (Kd.R_far (p := ⟨gb170, 2, none⟩) (Kd.R_far (p := ⟨gb170, 1, none⟩) (Kd.R_far (p := ⟨gb170, 0, none⟩) (Kd.R_types HO118.out BK170.out (by decide)) (fun _ hk => hk.2) (.int .u8 t160)) (fun _ hk => hk.2) (.int .i64 t161)) (fun _ hk => hk.2) (.int .i64 t162)) (fun _ hk => hk.2) (.int .i64 t163)) (fun _ hk => hk.2) (.int .i64 t164)) (fun _ hk => hk.2) (.int .i64 t165)) (fun _ hk => hk.2) (.bool t166)) (fun _ hk => hk.2) (.int .i64 t167)) (fun _ hk => ⟨hk.1.1.2, hk.1.2⟩)⟩
                        have n1_ : Aside0 (Kd.R (Kd.int .u8) 5 ((((((((w35.setCell ⟨gb170, 0, none⟩ (.int .u8 t160)).setCell ⟨gb170, 1, none⟩ (.int .i64 t161)).setCell ⟨gb170, 2, none⟩ (.int .i64 t162)).setCell ⟨gb170, 3, none⟩ (.int .i64 t163)).setCell ⟨gb170, 4, none⟩ (.int .i64 t164)).setCell ⟨gb170, 5, none⟩ (.int .i64 t165)).setCell ⟨gb170, 6, none⟩ (.bool t166)).setCell ⟨gb170, 7, none⟩ (.int .i64 t167)) w.heap.size (fun k_ => some k_ ≠ (.slice Ao21 y116.length co21 : Value).ownBlock ∧ some k_ ≠ (v155 : Value).ownBlock) (.slice Ao27 y131.length co27) y131) := ⟨by (with_reducible repeat (first | apply Kd.R_alloc | apply Kd.R_drewN | apply Kd.R_drew)); exact Kd.R_mono (Kd.R_far (p := ⟨gb170, 7, none⟩) (Kd.R_far (p := ⟨gb170, 6, none⟩) (Kd.R_far (p := ⟨gb170, 5, none⟩) (Kd.R_far (p := ⟨gb170, 4, none⟩) (Kd.R_far (p := ⟨gb170, 3, none⟩) (Kd.R_far (p := ⟨gb170, 2, none⟩) (Kd.R_far (p := ⟨gb170, 1, none⟩) (Kd.R_far (p := ⟨gb170, 0, none⟩) (Kd.R_types HO133.out BK170.out (by decide)) (fun _ hk => hk.2) (.int .u8 t160)) (fun _ hk => hk.2) (.int .i64 t161)) (fun _ hk => hk.2) (.int .i64 t162)) (fun _ hk => hk.2) (.int .i64 t163)) (fun _ hk => hk.2) (.int .i64 t164)) (fun _ hk => hk.2) (.int .i64 t165)) (fun _ hk => hk.2) (.bool t166)) (fun _ hk => hk.2) (.int .i64 t167)) (fun _ hk => ⟨hk.1.1.2, hk.1.2⟩)⟩
                        have n2_ : Aside0 (Kd.R (Kd.int .u8) 5 ((((((((w35.setCell ⟨gb170, 0, none⟩ (.int .u8 t160)).setCell ⟨gb170, 1, none⟩ (.int .i64 t161)).setCell ⟨gb170, 2, none⟩ (.int .i64 t162)).setCell ⟨gb170, 3, none⟩ (.int .i64 t163)).setCell ⟨gb170, 4, none⟩ (.int .i64 t164)).setCell ⟨gb170, 5, none⟩ (.int .i64 t165)).setCell ⟨gb170, 6, none⟩ (.bool t166)).setCell ⟨gb170, 7, none⟩ (.int .i64 t167)) w.heap.size (fun k_ => some k_ ≠ (.slice Ao21 y116.length co21 : Value).ownBlock ∧ some k_ ≠ (.slice Ao27 y131.length co27 : Value).ownBlock) v155 t154) := ⟨by (with_reducible repeat (first | apply Kd.R_alloc | apply Kd.R_drewN | apply Kd.R_drew)); exact Kd.R_mono (Kd.R_far (p := ⟨gb170, 7, none⟩) (Kd.R_far (p := ⟨gb170, 6, none⟩) (Kd.R_far (p := ⟨gb170, 5, none⟩) (Kd.R_far (p := ⟨gb170, 4, none⟩) (Kd.R_far (p := ⟨gb170, 3, none⟩) (Kd.R_far (p := ⟨gb170, 2, none⟩) (Kd.R_far (p := ⟨gb170, 1, none⟩) (Kd.R_far (p := ⟨gb170, 0, none⟩) (Kd.R_types HO156.out BK170.out (by decide)) (fun _ hk => hk.2) (.int .u8 t160)) (fun _ hk => hk.2) (.int .i64 t161)) (fun _ hk => hk.2) (.int .i64 t162)) (fun _ hk => hk.2) (.int .i64 t163)) (fun _ hk => hk.2) (.int .i64 t164)) (fun _ hk => hk.2) (.int .i64 t165)) (fun _ hk => hk.2) (.bool t166)) (fun _ hk => hk.2) (.int .i64 t167)) (fun _ hk => ⟨hk.1.1.2, hk.1.2⟩)⟩
                        have n3_ : Aside0 (((((((((w35.setCell ⟨gb170, 0, none⟩ (.int .u8 t160)).setCell ⟨gb170, 1, none⟩ (.int .i64 t161)).setCell ⟨gb170, 2, none⟩ (.int .i64 t162)).setCell ⟨gb170, 3, none⟩ (.int .i64 t163)).setCell ⟨gb170, 4, none⟩ (.int .i64 t164)).setCell ⟨gb170, 5, none⟩ (.int .i64 t165)).setCell ⟨gb170, 6, none⟩ (.bool t166)).setCell ⟨gb170, 7, none⟩ (.int .i64 t167)).heap[gb130]? = some (.cells #[.int .u8 t120, .int .i64 t121, .int .i64 t122, .int .i64 t123, .int .i64 t124, .int .i64 t125, .bool t126, .int .i64 t127] 23 (0, 0))) := ⟨by (with_reducible repeat (first | refine bN_ ?_ _ | refine bD_ ?_ | refine bA_ ?_ _)); refine blk_far ?_ NB130_170.out _; (with_reducible repeat (first | refine bN_ ?_ _ | refine bD_ ?_ | refine bA_ ?_ _)); refine blk_far ?_ NB130_170.out _; (with_reducible repeat (first | refine bN_ ?_ _ | refine bD_ ?_ | refine bA_ ?_ _)); refine blk_far ?_ NB130_170.out _; (with_reducible repeat (first | refine bN_ ?_ _ | refine bD_ ?_ | refine bA_ ?_ _)); refine blk_far ?_ NB130_170.out _; (with_reducible repeat (first | refine bN_ ?_ _ | refine bD_ ?_ | refine bA_ ?_ _)); refine blk_far ?_ NB130_170.out _; (with_reducible repeat (first | refine bN_ ?_ _ | refine bD_ ?_ | refine bA_ ?_ _)); refine blk_far ?_ NB130_170.out _; (with_reducible repeat (first | refine bN_ ?_ _ | refine bD_ ?_ | refine bA_ ?_ _)); refine blk_far ?_ NB130_170.out _; (with_reducible repeat (first | refine bN_ ?_ _ | refine bD_ ?_ | refine bA_ ?_ _)); refine blk_far ?_ NB130_170.out _; (with_reducible repeat (first | refine bN_ ?_ _ | refine bD_ ?_ | refine bA_ ?_ _)); exact BK130.out⟩
                        have n4_ : Aside0 (((((((((w35.setCell ⟨gb170, 0, none⟩ (.int .u8 t160)).setCell ⟨gb170, 1, none⟩ (.int .i64 t161)).setCell ⟨gb170, 2, none⟩ (.int .i64 t162)).setCell ⟨gb170, 3, none⟩ (.int .i64 t163)).setCell ⟨gb170, 4, none⟩ (.int .i64 t164)).setCell ⟨gb170, 5, none⟩ (.int .i64 t165)).setCell ⟨gb170, 6, none⟩ (.bool t166)).setCell ⟨gb170, 7, none⟩ (.int .i64 t167)).heap[gb145]? = some (.cells #[.int .u8 t135, .int .i64 t136, .int .i64 t137, .int .i64 t138, .int .i64 t139, .int .i64 t140, .bool t141, .int .i64 t142] 23 (0, 0))) := ⟨by (with_reducible repeat (first | refine bN_ ?_ _ | refine bD_ ?_ | refine bA_ ?_ _)); refine blk_far ?_ NB145_170.out _; (with_reducible repeat (first | refine bN_ ?_ _ | refine bD_ ?_ | refine bA_ ?_ _)); refine blk_far ?_ NB145_170.out _; (with_reducible repeat (first | refine bN_ ?_ _ | refine bD_ ?_ | refine bA_ ?_ _)); refine blk_far ?_ NB145_170.out _; (with_reducible repeat (first | refine bN_ ?_ _ | refine bD_ ?_ | refine bA_ ?_ _)); refine blk_far ?_ NB145_170.out _; (with_reducible repeat (first | refine bN_ ?_ _ | refine bD_ ?_ | refine bA_ ?_ _)); refine blk_far ?_ NB145_170.out _; (with_reducible repeat (first | refine bN_ ?_ _ | refine bD_ ?_ | refine bA_ ?_ _)); refine blk_far ?_ NB145_170.out _; (with_reducible repeat (first | refine bN_ ?_ _ | refine bD_ ?_ | refine bA_ ?_ _)); refine blk_far ?_ NB145_170.out _; (with_reducible repeat (first | refine bN_ ?_ _ | refine bD_ ?_ | refine bA_ ?_ _)); refine blk_far ?_ NB145_170.out _; (with_reducible repeat (first | refine bN_ ?_ _ | refine bD_ ?_ | refine bA_ ?_ _)); exact BK145.out⟩
                        have n5_ : Aside0 (((((((((w35.setCell ⟨gb170, 0, none⟩ (.int .u8 t160)).setCell ⟨gb170, 1, none⟩ (.int .i64 t161)).setCell ⟨gb170, 2, none⟩ (.int .i64 t162)).setCell ⟨gb170, 3, none⟩ (.int .i64 t163)).setCell ⟨gb170, 4, none⟩ (.int .i64 t164)).setCell ⟨gb170, 5, none⟩ (.int .i64 t165)).setCell ⟨gb170, 6, none⟩ (.bool t166)).setCell ⟨gb170, 7, none⟩ (.int .i64 t167)).heap[gb170]? = some (.cells #[.int .u8 t160, .int .i64 t161, .int .i64 t162, .int .i64 t163, .int .i64 t164, .int .i64 t165, .bool t166, .int .i64 t167] 23 (0, 0))) := ⟨by (with_reducible repeat (first | refine bN_ ?_ _ | refine bD_ ?_ | refine bA_ ?_ _)); refine blk_put (cs := #[.int .u8 t160, .int .i64 t161, .int .i64 t162, .int .i64 t163, .int .i64 t164, .int .i64 t165, .bool t166, .int .i64 0]) ?_ 7 _ rfl; (with_reducible repeat (first | refine bN_ ?_ _ | refine bD_ ?_ | refine bA_ ?_ _)); refine blk_put (cs := #[.int .u8 t160, .int .i64 t161, .int .i64 t162, .int .i64 t163, .int .i64 t164, .int .i64 t165, .bool false, .int .i64 0]) ?_ 6 _ rfl; (with_reducible repeat (first | refine bN_ ?_ _ | refine bD_ ?_ | refine bA_ ?_ _)); refine blk_put (cs := #[.int .u8 t160, .int .i64 t161, .int .i64 t162, .int .i64 t163, .int .i64 t164, .int .i64 0, .bool false, .int .i64 0]) ?_ 5 _ rfl; (with_reducible repeat (first | refine bN_ ?_ _ | refine bD_ ?_ | refine bA_ ?_ _)); refine blk_put (cs := #[.int .u8 t160, .int .i64 t161, .int .i64 t162, .int .i64 t163, .int .i64 0, .int .i64 0, .bool false, .int .i64 0]) ?_ 4 _ rfl; (with_reducible repeat (first | refine bN_ ?_ _ | refine bD_ ?_ | refine bA_ ?_ _)); refine blk_put (cs := #[.int .u8 t160, .int .i64 t161, .int .i64 t162, .int .i64 0, .int .i64 0, .int .i64 0, .bool false, .int .i64 0]) ?_ 3 _ rfl; (with_reducible repeat (first | refine bN_ ?_ _ | refine bD_ ?_ | refine bA_ ?_ _)); refine blk_put (cs := #[.int .u8 t160, .int .i64 t161, .int .i64 0, .int .i64 0, .int .i64 0, .int .i64 0, .bool false, .int .i64 0]) ?_ 2 _ rfl; (with_reducible repeat (first | refine bN_ ?_ _ | refine bD_ ?_ | refine bA_ ?_ _)); refine blk_put (cs := #[.int .u8 t160, .int .i64 0, .int .i64 0, .int .i64 0, .int .i64 0, .int .i64 0, .bool false, .int .i64 0]) ?_ 1 _ rfl; (with_reducible repeat (first | refine bN_ ?_ _ | refine bD_ ?_ | refine bA_ ?_ _)); refine blk_put (cs := #[.int .u8 0, .int .i64 0, .int .i64 0, .int .i64 0, .int .i64 0, .int .i64 0, .bool false, .int .i64 0]) ?_ 0 _ rfl; (with_reducible repeat (first | refine bN_ ?_ _ | refine bD_ ?_ | refine bA_ ?_ _)); exact BK170.out⟩
                        have n6_ : Aside0 (Below w.heap.size w ((((((((w35.setCell ⟨gb170, 0, none⟩ (.int .u8 t160)).setCell ⟨gb170, 1, none⟩ (.int .i64 t161)).setCell ⟨gb170, 2, none⟩ (.int .i64 t162)).setCell ⟨gb170, 3, none⟩ (.int .i64 t163)).setCell ⟨gb170, 4, none⟩ (.int .i64 t164)).setCell ⟨gb170, 5, none⟩ (.int .i64 t165)).setCell ⟨gb170, 6, none⟩ (.bool t166)).setCell ⟨gb170, 7, none⟩ (.int .i64 t167))) := ⟨by repeat (first | (with_reducible first | exact HB.out | apply bX_ | apply bW_ | apply bY_ | refine bS_ ?_ GE130.out | refine bS_ ?_ GE145.out | refine bS_ ?_ GE170.out) | exact HB.out)⟩
                        (try clear HO118)
                        (try clear HO133)
                        (try clear HO156)
                        (try clear BK130)
                        (try clear BK145)
                        (try clear BK170)
                        (try clear HB)
                        generalize ((((((((w35.setCell ⟨gb170, 0, none⟩ (.int .u8 t160)).setCell ⟨gb170, 1, none⟩ (.int .i64 t161)).setCell ⟨gb170, 2, none⟩ (.int .i64 t162)).setCell ⟨gb170, 3, none⟩ (.int .i64 t163)).setCell ⟨gb170, 4, none⟩ (.int .i64 t164)).setCell ⟨gb170, 5, none⟩ (.int .i64 t165)).setCell ⟨gb170, 6, none⟩ (.bool t166)).setCell ⟨gb170, 7, none⟩ (.int .i64 t167)) = w39 at n0_ n1_ n2_ n3_ n4_ n5_ n6_ ⊢
                        have HO118 := n0_
                        have HO133 := n1_
                        have HO156 := n2_
                        have BK130 := n3_
                        have BK145 := n4_
                        have BK170 := n5_
                        have HB := n6_
                        clear n0_ n1_ n2_ n3_ n4_ n5_ n6_
                        have n0_ := Aside0.mk (Kd.R_drew HO118.out)
                        have n1_ := Aside0.mk (Kd.R_drew HO133.out)
                        have n2_ := Aside0.mk (Kd.R_drew HO156.out)
                        have n3_ := Aside0.mk (bD_ BK130.out)
                        have n4_ := Aside0.mk (bD_ BK145.out)
                        have n5_ := Aside0.mk (bD_ BK170.out)
                        have n6_ := Aside0.mk (bY_ HB.out)
                        clear HO118
                        clear HO133
                        clear HO156
                        clear BK130
                        clear BK145
                        clear BK170
                        clear HB
                        have HO118 := n0_
                        have HO133 := n1_
                        have HO156 := n2_
                        have BK130 := n3_
                        have BK145 := n4_
                        have BK170 := n5_
                        have HB := n6_
                        clear n0_ n1_ n2_ n3_ n4_ n5_ n6_
                        refine start_ (n := 50) (S := fun w' => w'.cell? ⟨gb130, 0, none⟩ = some (.int .u8 t120) ∧ w'.cell? ⟨gb130, 1, none⟩ = some (.int .i64 t121) ∧ w'.cell? ⟨gb130, 2, none⟩ = some (.int .i64 t122) ∧ w'.cell? ⟨gb130, 3, none⟩ = some (.int .i64 t123) ∧ w'.cell? ⟨gb130, 4, none⟩ = some (.int .i64 t124) ∧ w'.cell? ⟨gb130, 5, none⟩ = some (.int .i64 t125) ∧ w'.cell? ⟨gb130, 6, none⟩ = some (.bool t126) ∧ w'.cell? ⟨gb130, 7, none⟩ = some (.int .i64 t127) ∧ w'.cell? ⟨gb145, 0, none⟩ = some (.int .u8 t135) ∧ w'.cell? ⟨gb145, 1, none⟩ = some (.int .i64 t136) ∧ w'.cell? ⟨gb145, 2, none⟩ = some (.int .i64 t137) ∧ w'.cell? ⟨gb145, 3, none⟩ = some (.int .i64 t138) ∧ w'.cell? ⟨gb145, 4, none⟩ = some (.int .i64 t139) ∧ w'.cell? ⟨gb145, 5, none⟩ = some (.int .i64 t140) ∧ w'.cell? ⟨gb145, 6, none⟩ = some (.bool t141) ∧ w'.cell? ⟨gb145, 7, none⟩ = some (.int .i64 t142) ∧ (convert 24 9 v155).run Tryd.prog w' = .ok (.string (strOfNums t154)) w') (ds := []) #[false, false, false, false, false, false, false, false, false, false, false, false, false, false, false, false, false, false, false, false, false, false, false, false, false, false, false, false, false, false, false, false, false, false, false, false, false, false, false, false, false, false, false, false, false, false, false, false, false, false] (by kernel_rfl) rfl rfl ⟨(bC_ BK130.out 0).trans rfl, (bC_ BK130.out 1).trans rfl, (bC_ BK130.out 2).trans rfl, (bC_ BK130.out 3).trans rfl, (bC_ BK130.out 4).trans rfl, (bC_ BK130.out 5).trans rfl, (bC_ BK130.out 6).trans rfl, (bC_ BK130.out 7).trans rfl, (bC_ BK145.out 0).trans rfl, (bC_ BK145.out 1).trans rfl, (bC_ BK145.out 2).trans rfl, (bC_ BK145.out 3).trans rfl, (bC_ BK145.out 4).trans rfl, (bC_ BK145.out 5).trans rfl, (bC_ BK145.out 6).trans rfl, (bC_ BK145.out 7).trans rfl, wkConv HO156.out⟩ (fun hHeld => ?_); refine with_tabW l8_wakes.tab5 l8_wakes.bits5 (fun HT_ HW_ => ?_)
                        generalize w39.drew = w40 at HO118 HO133 HO156 BK130 BK145 BK170 HB hHeld ⊢
                        refine pure_ (i := 0) (N := some 42) (v := ?_) (a' := ?_) #[true, false, false, false, false, false, false, false, false, false, false, false, false, false, false, false, false, false, false, false, false, false, false, false, false, false, false, false, false, false, false, false, false, false, false, false, false, false, false, false, false, false, false, false, false, false, false, false, false, false] rfl rfl (any_of HT_.out (by kernel_rfl)) (fun _ _ _ h => h) (Or.inl ⟨by rfl, ?_⟩) ?_ ?_
                        rotate_left
                        · intro w'
                          go_simp
                          with_reducible rfl
                        rotate_left
                        · simp only [Act.put, List.setIfInBounds_toArray, List.set_cons_zero, List.set_cons_succ, i64_w, i32_w]
                          rfl
                        refine pure_ (i := 1) (N := some 43) (v := ?_) (a' := ?_) #[true, true, false, false, false, false, false, false, false, false, false, false, false, false, false, false, false, false, false, false, false, false, false, false, false, false, false, false, false, false, false, false, false, false, false, false, false, false, false, false, false, false, false, false, false, false, false, false, false, false] rfl rfl (any_of HT_.out (by kernel_rfl)) (fun _ _ _ h => h) (Or.inl ⟨by rfl, ?_⟩) ?_ ?_
                        rotate_left
                        · intro w'
                          go_simp
                          with_reducible rfl
                        rotate_left
                        · simp only [Act.put, List.setIfInBounds_toArray, List.set_cons_zero, List.set_cons_succ, i64_w, i32_w]
                          rfl
                        refine pure_ (i := 2) (N := some 44) (v := ?_) (a' := ?_) #[true, true, true, false, false, false, false, false, false, false, false, false, false, false, false, false, false, false, false, false, false, false, false, false, false, false, false, false, false, false, false, false, false, false, false, false, false, false, false, false, false, false, false, false, false, false, false, false, false, false] rfl rfl (any_of HT_.out (by kernel_rfl)) (fun _ _ _ h => h) (Or.inl ⟨by rfl, ?_⟩) ?_ ?_
                        rotate_left
                        · intro w'
                          go_simp
                          with_reducible rfl
                        rotate_left
                        · simp only [Act.put, List.setIfInBounds_toArray, List.set_cons_zero, List.set_cons_succ, i64_w, i32_w]
                          rfl
                        refine take_ (i := 3) (N := some 45) (v := ?_) (a' := ?_) #[true, true, true, true, false, false, false, false, false, false, false, false, false, false, false, false, false, false, false, false, false, false, false, false, false, false, false, false, false, false, false, false, false, false, false, false, false, false, false, false, false, false, false, false, false, false, false, false, false, false] rfl rfl (take_ofW HT_.out HW_.out (by kernel_rfl)) (fun _ _ _ h => h) (Or.inl ⟨by rfl, ?_⟩) hHeld ?_ ?_
                        rotate_left
                        · rintro w' ⟨s0, s1, s2, s3, s4, s5, s6, s7, s8, s9, s10, s11, s12, s13, s14, s15, s16⟩
                          go_simp
                          with_reducible rfl
                        rotate_left
                        · simp only [Act.put, List.setIfInBounds_toArray, List.set_cons_zero, List.set_cons_succ, i64_w, i32_w]
                          rfl
                        refine one_ (i := 4) (N := some 46) #[true, true, true, true, true, false, false, false, false, false, false, false, false, false, false, false, false, false, false, false, false, false, false, false, false, false, false, false, false, false, false, false, false, false, false, false, false, false, false, false, false, false, false, false, false, false, false, false, false, false] rfl rfl (one_of HT_.out (by kernel_rfl)) (by decide) (fun K hK => ?_)
                        refine goes_ Tryd.func19 (by kernel_rfl) rfl #[.int .i64 1] (by rfl) rfl rfl (by (try simp only [List.map_toArray, List.map_cons, List.map_nil]); first | done | rfl | (simp only [List.length_drop, List.length_take]; rfl)) ?_
                        with_reducible refine (operand_Reg.calls 1 t171 t172 t173 t174 t175 t176 t177 t178 _ A7.out).mono ?_
                        rintro e w41 ⟨rfl, hb⟩
                        refine ⟨_, rfl, ?_⟩
                        have n0_ := Aside0.mk (Kd.R_below (by (with_reducible repeat (first | apply Kd.R_alloc | apply Kd.R_drewN | apply Kd.R_drew)); exact HO118.out) hb)
                        have n1_ := Aside0.mk (Kd.R_below (by (with_reducible repeat (first | apply Kd.R_alloc | apply Kd.R_drewN | apply Kd.R_drew)); exact HO133.out) hb)
                        have n2_ := Aside0.mk (Kd.R_below (by (with_reducible repeat (first | apply Kd.R_alloc | apply Kd.R_drewN | apply Kd.R_drew)); exact HO156.out) hb)
                        have n3_ := Aside0.mk (blk_below (g := gb130) (o := .cells #[.int .u8 t120, .int .i64 t121, .int .i64 t122, .int .i64 t123, .int .i64 t124, .int .i64 t125, .bool t126, .int .i64 t127] 23 (0, 0)) (by (with_reducible repeat (first | refine bN_ ?_ _ | refine bD_ ?_ | refine bA_ ?_ _)); exact BK130.out) hb)
                        have n4_ := Aside0.mk (blk_below (g := gb145) (o := .cells #[.int .u8 t135, .int .i64 t136, .int .i64 t137, .int .i64 t138, .int .i64 t139, .int .i64 t140, .bool t141, .int .i64 t142] 23 (0, 0)) (by (with_reducible repeat (first | refine bN_ ?_ _ | refine bD_ ?_ | refine bA_ ?_ _)); exact BK145.out) hb)
                        have n5_ := Aside0.mk (blk_below (g := gb170) (o := .cells #[.int .u8 t160, .int .i64 t161, .int .i64 t162, .int .i64 t163, .int .i64 t164, .int .i64 t165, .bool t166, .int .i64 t167] 23 (0, 0)) (by (with_reducible repeat (first | refine bN_ ?_ _ | refine bD_ ?_ | refine bA_ ?_ _)); exact BK170.out) hb)
                        have n6_ := Aside0.mk (below_step (by repeat (first | (with_reducible first | exact HB.out | apply bX_ | apply bW_ | apply bY_ | refine bS_ ?_ GE130.out | refine bS_ ?_ GE145.out | refine bS_ ?_ GE170.out) | exact HB.out)) hb)
                        clear HO118
                        clear HO133
                        clear HO156
                        clear BK130
                        clear BK145
                        clear BK170
                        clear HB
                        have HO118 := n0_
                        have HO133 := n1_
                        have HO156 := n2_
                        have BK130 := n3_
                        have BK145 := n4_
                        have BK170 := n5_
                        have HB := n6_
                        clear n0_ n1_ n2_ n3_ n4_ n5_ n6_
                        (try clear hb)
                        (try clear hb2)
                        (try clear hk)
                        (try clear hi)
                        refine hK.out _ _ ⟨(bC_ BK130.out 0).trans rfl, (bC_ BK130.out 1).trans rfl, (bC_ BK130.out 2).trans rfl, (bC_ BK130.out 3).trans rfl, (bC_ BK130.out 4).trans rfl, (bC_ BK130.out 5).trans rfl, (bC_ BK130.out 6).trans rfl, (bC_ BK130.out 7).trans rfl, (bC_ BK145.out 0).trans rfl, (bC_ BK145.out 1).trans rfl, (bC_ BK145.out 2).trans rfl, (bC_ BK145.out 3).trans rfl, (bC_ BK145.out 4).trans rfl, (bC_ BK145.out 5).trans rfl, (bC_ BK145.out 6).trans rfl, (bC_ BK145.out 7).trans rfl, wkConv HO156.out⟩ (fun hHeld => ?_)
                        clear hK K
                        refine norm_ (a' := ?_) ?_ ?_
                        rotate_left
                        · show Act.put _ (some 46) _ = _
                          simp only [Act.put, List.setIfInBounds_toArray, List.set_cons_zero, List.set_cons_succ, i64_w, i32_w]
                          rfl
                        refine pure_ (i := 5) (N := some 47) (v := ?_) (a' := ?_) #[true, true, true, true, true, true, false, false, false, false, false, false, false, false, false, false, false, false, false, false, false, false, false, false, false, false, false, false, false, false, false, false, false, false, false, false, false, false, false, false, false, false, false, false, false, false, false, false, false, false] rfl rfl (any_of HT_.out (by kernel_rfl)) (fun _ _ _ h => h) (Or.inl ⟨by rfl, ?_⟩) ?_ ?_
                        rotate_left
                        · intro w'
                          go_simp
                          with_reducible rfl
                        rotate_left
                        · simp only [Act.put, List.setIfInBounds_toArray, List.set_cons_zero, List.set_cons_succ, i64_w, i32_w]
                          rfl
                        refine pure_ (i := 6) (N := some 48) (v := ?_) (a' := ?_) #[true, true, true, true, true, true, true, false, false, false, false, false, false, false, false, false, false, false, false, false, false, false, false, false, false, false, false, false, false, false, false, false, false, false, false, false, false, false, false, false, false, false, false, false, false, false, false, false, false, false] rfl rfl (any_of HT_.out (by kernel_rfl)) (fun _ _ _ h => h) (Or.inl ⟨by rfl, ?_⟩) ?_ ?_
                        rotate_left
                        · intro w'
                          go_simp
                          with_reducible rfl
                        rotate_left
                        · simp only [Act.put, List.setIfInBounds_toArray, List.set_cons_zero, List.set_cons_succ, i64_w, i32_w]
                          rfl
                        refine pure_ (i := 7) (N := some 49) (v := ?_) (a' := ?_) #[true, true, true, true, true, true, true, true, false, false, false, false, false, false, false, false, false, false, false, false, false, false, false, false, false, false, false, false, false, false, false, false, false, false, false, false, false, false, false, false, false, false, false, false, false, false, false, false, false, false] rfl rfl (any_of HT_.out (by kernel_rfl)) (fun _ _ _ h => h) (Or.inl ⟨by rfl, ?_⟩) ?_ ?_
                        rotate_left
                        · intro w'
                          go_simp
                          with_reducible rfl
                        rotate_left
                        · simp only [Act.put, List.setIfInBounds_toArray, List.set_cons_zero, List.set_cons_succ, i64_w, i32_w]
                          rfl
                        refine pure_ (i := 8) (N := some 50) (v := ?_) (a' := ?_) #[true, true, true, true, true, true, true, true, true, false, false, false, false, false, false, false, false, false, false, false, false, false, false, false, false, false, false, false, false, false, false, false, false, false, false, false, false, false, false, false, false, false, false, false, false, false, false, false, false, false] rfl rfl (any_of HT_.out (by kernel_rfl)) (fun _ _ _ h => h) (Or.inl ⟨by rfl, ?_⟩) ?_ ?_
                        rotate_left
                        · intro w'
                          go_simp
                          with_reducible rfl
                        rotate_left
                        · simp only [Act.put, List.setIfInBounds_toArray, List.set_cons_zero, List.set_cons_succ, i64_w, i32_w]
                          rfl
                        refine pure_ (i := 9) (N := some 51) (v := ?_) (a' := ?_) #[true, true, true, true, true, true, true, true, true, true, false, false, false, false, false, false, false, false, false, false, false, false, false, false, false, false, false, false, false, false, false, false, false, false, false, false, false, false, false, false, false, false, false, false, false, false, false, false, false, false] rfl rfl (any_of HT_.out (by kernel_rfl)) (fun _ _ _ h => h) (Or.inl ⟨by rfl, ?_⟩) ?_ ?_
                        rotate_left
                        · intro w'
                          go_simp
                          with_reducible rfl
                        rotate_left
                        · simp only [Act.put, List.setIfInBounds_toArray, List.set_cons_zero, List.set_cons_succ, i64_w, i32_w]
                          rfl
                        refine pure_ (i := 10) (N := some 52) (v := ?_) (a' := ?_) #[true, true, true, true, true, true, true, true, true, true, true, false, false, false, false, false, false, false, false, false, false, false, false, false, false, false, false, false, false, false, false, false, false, false, false, false, false, false, false, false, false, false, false, false, false, false, false, false, false, false] rfl rfl (any_of HT_.out (by kernel_rfl)) (fun _ _ _ h => h) (Or.inl ⟨by rfl, ?_⟩) ?_ ?_
                        rotate_left
                        · intro w'
                          go_simp
                          with_reducible rfl
                        rotate_left
                        · simp only [Act.put, List.setIfInBounds_toArray, List.set_cons_zero, List.set_cons_succ, i64_w, i32_w]
                          rfl
                        refine pure_ (i := 11) (N := some 53) (v := ?_) (a' := ?_) #[true, true, true, true, true, true, true, true, true, true, true, true, false, false, false, false, false, false, false, false, false, false, false, false, false, false, false, false, false, false, false, false, false, false, false, false, false, false, false, false, false, false, false, false, false, false, false, false, false, false] rfl rfl (any_of HT_.out (by kernel_rfl)) (fun _ _ _ h => h) (Or.inl ⟨by rfl, ?_⟩) ?_ ?_
                        rotate_left
                        · intro w'
                          go_simp
                          with_reducible rfl
                        rotate_left
                        · simp only [Act.put, List.setIfInBounds_toArray, List.set_cons_zero, List.set_cons_succ, i64_w, i32_w]
                          rfl
                        refine pure_ (i := 12) (N := some 54) (v := ?_) (a' := ?_) #[true, true, true, true, true, true, true, true, true, true, true, true, true, false, false, false, false, false, false, false, false, false, false, false, false, false, false, false, false, false, false, false, false, false, false, false, false, false, false, false, false, false, false, false, false, false, false, false, false, false] rfl rfl (any_of HT_.out (by kernel_rfl)) (fun _ _ _ h => h) (Or.inl ⟨by rfl, ?_⟩) ?_ ?_
                        rotate_left
                        · intro w'
                          go_simp
                          with_reducible rfl
                        rotate_left
                        · simp only [Act.put, List.setIfInBounds_toArray, List.set_cons_zero, List.set_cons_succ, i64_w, i32_w]
                          rfl
                        refine pure_ (i := 13) (N := some 55) (v := ?_) (a' := ?_) #[true, true, true, true, true, true, true, true, true, true, true, true, true, true, false, false, false, false, false, false, false, false, false, false, false, false, false, false, false, false, false, false, false, false, false, false, false, false, false, false, false, false, false, false, false, false, false, false, false, false] rfl rfl (any_of HT_.out (by kernel_rfl)) (fun _ _ _ h => h) (Or.inl ⟨by rfl, ?_⟩) ?_ ?_
                        rotate_left
                        · intro w'
                          go_simp
                          with_reducible rfl
                        rotate_left
                        · simp only [Act.put, List.setIfInBounds_toArray, List.set_cons_zero, List.set_cons_succ, i64_w, i32_w]
                          rfl
                        refine pure_ (i := 14) (N := some 56) (v := ?_) (a' := ?_) #[true, true, true, true, true, true, true, true, true, true, true, true, true, true, true, false, false, false, false, false, false, false, false, false, false, false, false, false, false, false, false, false, false, false, false, false, false, false, false, false, false, false, false, false, false, false, false, false, false, false] rfl rfl (any_of HT_.out (by kernel_rfl)) (fun _ _ _ h => h) (Or.inl ⟨by rfl, ?_⟩) ?_ ?_
                        rotate_left
                        · intro w'
                          go_simp
                          with_reducible rfl
                        rotate_left
                        · simp only [Act.put, List.setIfInBounds_toArray, List.set_cons_zero, List.set_cons_succ, i64_w, i32_w]
                          rfl
                        refine pure_ (i := 15) (N := some 57) (v := ?_) (a' := ?_) #[true, true, true, true, true, true, true, true, true, true, true, true, true, true, true, true, false, false, false, false, false, false, false, false, false, false, false, false, false, false, false, false, false, false, false, false, false, false, false, false, false, false, false, false, false, false, false, false, false, false] rfl rfl (any_of HT_.out (by kernel_rfl)) (fun _ _ _ h => h) (Or.inl ⟨by rfl, ?_⟩) ?_ ?_
                        rotate_left
                        · intro w'
                          go_simp
                          with_reducible rfl
                        rotate_left
                        · simp only [Act.put, List.setIfInBounds_toArray, List.set_cons_zero, List.set_cons_succ, i64_w, i32_w]
                          rfl
                        refine pure_ (i := 16) (N := some 58) (v := ?_) (a' := ?_) #[true, true, true, true, true, true, true, true, true, true, true, true, true, true, true, true, true, false, false, false, false, false, false, false, false, false, false, false, false, false, false, false, false, false, false, false, false, false, false, false, false, false, false, false, false, false, false, false, false, false] rfl rfl (any_of HT_.out (by kernel_rfl)) (fun _ _ _ h => h) (Or.inl ⟨by rfl, ?_⟩) ?_ ?_
                        rotate_left
                        · intro w'
                          go_simp
                          with_reducible rfl
                        rotate_left
                        · simp only [Act.put, List.setIfInBounds_toArray, List.set_cons_zero, List.set_cons_succ, i64_w, i32_w]
                          rfl
                        refine pure_ (i := 17) (N := some 59) (v := ?_) (a' := ?_) #[true, true, true, true, true, true, true, true, true, true, true, true, true, true, true, true, true, true, false, false, false, false, false, false, false, false, false, false, false, false, false, false, false, false, false, false, false, false, false, false, false, false, false, false, false, false, false, false, false, false] rfl rfl (any_of HT_.out (by kernel_rfl)) (fun _ _ _ h => h) (Or.inl ⟨by rfl, ?_⟩) ?_ ?_
                        rotate_left
                        · intro w'
                          go_simp
                          with_reducible rfl
                        rotate_left
                        · simp only [Act.put, List.setIfInBounds_toArray, List.set_cons_zero, List.set_cons_succ, i64_w, i32_w]
                          rfl
                        refine pure_ (i := 18) (N := some 60) (v := ?_) (a' := ?_) #[true, true, true, true, true, true, true, true, true, true, true, true, true, true, true, true, true, true, true, false, false, false, false, false, false, false, false, false, false, false, false, false, false, false, false, false, false, false, false, false, false, false, false, false, false, false, false, false, false, false] rfl rfl (any_of HT_.out (by kernel_rfl)) (fun _ _ _ h => h) (Or.inl ⟨by rfl, ?_⟩) ?_ ?_
                        rotate_left
                        · intro w'
                          go_simp
                          with_reducible rfl
                        rotate_left
                        · simp only [Act.put, List.setIfInBounds_toArray, List.set_cons_zero, List.set_cons_succ, i64_w, i32_w]
                          rfl
                        refine pure_ (i := 19) (N := some 61) (v := ?_) (a' := ?_) #[true, true, true, true, true, true, true, true, true, true, true, true, true, true, true, true, true, true, true, true, false, false, false, false, false, false, false, false, false, false, false, false, false, false, false, false, false, false, false, false, false, false, false, false, false, false, false, false, false, false] rfl rfl (any_of HT_.out (by kernel_rfl)) (fun _ _ _ h => h) (Or.inl ⟨by rfl, ?_⟩) ?_ ?_
                        rotate_left
                        · intro w'
                          go_simp
                          with_reducible rfl
                        rotate_left
                        · simp only [Act.put, List.setIfInBounds_toArray, List.set_cons_zero, List.set_cons_succ, i64_w, i32_w]
                          rfl
                        refine take_ (i := 20) (N := some 62) (v := ?_) (a' := ?_) #[true, true, true, true, true, true, true, true, true, true, true, true, true, true, true, true, true, true, true, true, true, false, false, false, false, false, false, false, false, false, false, false, false, false, false, false, false, false, false, false, false, false, false, false, false, false, false, false, false, false] rfl rfl (take_ofW HT_.out HW_.out (by kernel_rfl)) (fun _ _ _ h => h) (Or.inl ⟨by rfl, ?_⟩) hHeld ?_ ?_
                        rotate_left
                        · rintro w' ⟨s0, s1, s2, s3, s4, s5, s6, s7, s8, s9, s10, s11, s12, s13, s14, s15, s16⟩
                          go_simp
                          with_reducible rfl
                        rotate_left
                        · simp only [Act.put, List.setIfInBounds_toArray, List.set_cons_zero, List.set_cons_succ, i64_w, i32_w]
                          rfl
                        refine one_ (i := 21) (N := some 63) #[true, true, true, true, true, true, true, true, true, true, true, true, true, true, true, true, true, true, true, true, true, true, false, false, false, false, false, false, false, false, false, false, false, false, false, false, false, false, false, false, false, false, false, false, false, false, false, false, false, false] rfl rfl (one_of HT_.out (by kernel_rfl)) (by decide) (fun K hK => ?_)
                        refine goes_ Tryd.func21 (by kernel_rfl) rfl #[.int .i64 4, .int .i64 8] (by rfl) rfl rfl (by (try simp only [List.map_toArray, List.map_cons, List.map_nil]); first | done | rfl | (simp only [List.length_drop, List.length_take]; rfl)) ?_
                        with_reducible refine (operand_Mem.calls 4 8 t179 t180 t181 t182 t183 t184 t185 t186 _ A12.out).mono ?_
                        rintro e w42 ⟨rfl, hb⟩
                        refine ⟨_, rfl, ?_⟩
                        have n0_ := Aside0.mk (Kd.R_below (by (with_reducible repeat (first | apply Kd.R_alloc | apply Kd.R_drewN | apply Kd.R_drew)); exact HO118.out) hb)
                        have n1_ := Aside0.mk (Kd.R_below (by (with_reducible repeat (first | apply Kd.R_alloc | apply Kd.R_drewN | apply Kd.R_drew)); exact HO133.out) hb)
                        have n2_ := Aside0.mk (Kd.R_below (by (with_reducible repeat (first | apply Kd.R_alloc | apply Kd.R_drewN | apply Kd.R_drew)); exact HO156.out) hb)
                        have n3_ := Aside0.mk (blk_below (g := gb130) (o := .cells #[.int .u8 t120, .int .i64 t121, .int .i64 t122, .int .i64 t123, .int .i64 t124, .int .i64 t125, .bool t126, .int .i64 t127] 23 (0, 0)) (by (with_reducible repeat (first | refine bN_ ?_ _ | refine bD_ ?_ | refine bA_ ?_ _)); exact BK130.out) hb)
                        have n4_ := Aside0.mk (blk_below (g := gb145) (o := .cells #[.int .u8 t135, .int .i64 t136, .int .i64 t137, .int .i64 t138, .int .i64 t139, .int .i64 t140, .bool t141, .int .i64 t142] 23 (0, 0)) (by (with_reducible repeat (first | refine bN_ ?_ _ | refine bD_ ?_ | refine bA_ ?_ _)); exact BK145.out) hb)
                        have n5_ := Aside0.mk (blk_below (g := gb170) (o := .cells #[.int .u8 t160, .int .i64 t161, .int .i64 t162, .int .i64 t163, .int .i64 t164, .int .i64 t165, .bool t166, .int .i64 t167] 23 (0, 0)) (by (with_reducible repeat (first | refine bN_ ?_ _ | refine bD_ ?_ | refine bA_ ?_ _)); exact BK170.out) hb)
                        have n6_ := Aside0.mk (below_step (by repeat (first | (with_reducible first | exact HB.out | apply bX_ | apply bW_ | apply bY_ | refine bS_ ?_ GE130.out | refine bS_ ?_ GE145.out | refine bS_ ?_ GE170.out) | exact HB.out)) hb)
                        clear HO118
                        clear HO133
                        clear HO156
                        clear BK130
                        clear BK145
                        clear BK170
                        clear HB
                        have HO118 := n0_
                        have HO133 := n1_
                        have HO156 := n2_
                        have BK130 := n3_
                        have BK145 := n4_
                        have BK170 := n5_
                        have HB := n6_
                        clear n0_ n1_ n2_ n3_ n4_ n5_ n6_
                        (try clear hb)
                        (try clear hb2)
                        (try clear hk)
                        (try clear hi)
                        have hcv43 := own_string (P := Tryd.prog) Tryd.underlying24 Tryd.underlying5 Tryd.underlying9 (Kd.own_of_R HO156.out)
                        refine hK.out _ _ ⟨(bC_ BK130.out 0).trans rfl, (bC_ BK130.out 1).trans rfl, (bC_ BK130.out 2).trans rfl, (bC_ BK130.out 3).trans rfl, (bC_ BK130.out 4).trans rfl, (bC_ BK130.out 5).trans rfl, (bC_ BK130.out 6).trans rfl, (bC_ BK130.out 7).trans rfl, (bC_ BK145.out 0).trans rfl, (bC_ BK145.out 1).trans rfl, (bC_ BK145.out 2).trans rfl, (bC_ BK145.out 3).trans rfl, (bC_ BK145.out 4).trans rfl, (bC_ BK145.out 5).trans rfl, (bC_ BK145.out 6).trans rfl, (bC_ BK145.out 7).trans rfl, wkConv HO156.out⟩ (fun hHeld => ?_)
                        clear hK K
                        refine norm_ (a' := ?_) ?_ ?_
                        rotate_left
                        · show Act.put _ (some 63) _ = _
                          simp only [Act.put, List.setIfInBounds_toArray, List.set_cons_zero, List.set_cons_succ, i64_w, i32_w]
                          rfl
                        refine pure_ (i := 22) (N := some 64) (v := ?_) (a' := ?_) #[true, true, true, true, true, true, true, true, true, true, true, true, true, true, true, true, true, true, true, true, true, true, true, false, false, false, false, false, false, false, false, false, false, false, false, false, false, false, false, false, false, false, false, false, false, false, false, false, false, false] rfl rfl (any_of HT_.out (by kernel_rfl)) (fun _ _ _ h => h) (Or.inl ⟨by rfl, ?_⟩) ?_ ?_
                        rotate_left
                        · intro w'
                          go_simp
                          with_reducible rfl
                        rotate_left
                        · simp only [Act.put, List.setIfInBounds_toArray, List.set_cons_zero, List.set_cons_succ, i64_w, i32_w]
                          rfl
                        refine pure_ (i := 23) (N := some 65) (v := ?_) (a' := ?_) #[true, true, true, true, true, true, true, true, true, true, true, true, true, true, true, true, true, true, true, true, true, true, true, true, false, false, false, false, false, false, false, false, false, false, false, false, false, false, false, false, false, false, false, false, false, false, false, false, false, false] rfl rfl (any_of HT_.out (by kernel_rfl)) (fun _ _ _ h => h) (Or.inl ⟨by rfl, ?_⟩) ?_ ?_
                        rotate_left
                        · intro w'
                          go_simp
                          with_reducible rfl
                        rotate_left
                        · simp only [Act.put, List.setIfInBounds_toArray, List.set_cons_zero, List.set_cons_succ, i64_w, i32_w]
                          rfl
                        refine pure_ (i := 24) (N := some 66) (v := ?_) (a' := ?_) #[true, true, true, true, true, true, true, true, true, true, true, true, true, true, true, true, true, true, true, true, true, true, true, true, true, false, false, false, false, false, false, false, false, false, false, false, false, false, false, false, false, false, false, false, false, false, false, false, false, false] rfl rfl (any_of HT_.out (by kernel_rfl)) (fun _ _ _ h => h) (Or.inl ⟨by rfl, ?_⟩) ?_ ?_
                        rotate_left
                        · intro w'
                          go_simp
                          with_reducible rfl
                        rotate_left
                        · simp only [Act.put, List.setIfInBounds_toArray, List.set_cons_zero, List.set_cons_succ, i64_w, i32_w]
                          rfl
                        refine pure_ (i := 25) (N := some 67) (v := ?_) (a' := ?_) #[true, true, true, true, true, true, true, true, true, true, true, true, true, true, true, true, true, true, true, true, true, true, true, true, true, true, false, false, false, false, false, false, false, false, false, false, false, false, false, false, false, false, false, false, false, false, false, false, false, false] rfl rfl (any_of HT_.out (by kernel_rfl)) (fun _ _ _ h => h) (Or.inl ⟨by rfl, ?_⟩) ?_ ?_
                        rotate_left
                        · intro w'
                          go_simp
                          with_reducible rfl
                        rotate_left
                        · simp only [Act.put, List.setIfInBounds_toArray, List.set_cons_zero, List.set_cons_succ, i64_w, i32_w]
                          rfl
                        refine pure_ (i := 26) (N := some 68) (v := ?_) (a' := ?_) #[true, true, true, true, true, true, true, true, true, true, true, true, true, true, true, true, true, true, true, true, true, true, true, true, true, true, true, false, false, false, false, false, false, false, false, false, false, false, false, false, false, false, false, false, false, false, false, false, false, false] rfl rfl (any_of HT_.out (by kernel_rfl)) (fun _ _ _ h => h) (Or.inl ⟨by rfl, ?_⟩) ?_ ?_
                        rotate_left
                        · intro w'
                          go_simp
                          with_reducible rfl
                        rotate_left
                        · simp only [Act.put, List.setIfInBounds_toArray, List.set_cons_zero, List.set_cons_succ, i64_w, i32_w]
                          rfl
                        refine pure_ (i := 27) (N := some 69) (v := ?_) (a' := ?_) #[true, true, true, true, true, true, true, true, true, true, true, true, true, true, true, true, true, true, true, true, true, true, true, true, true, true, true, true, false, false, false, false, false, false, false, false, false, false, false, false, false, false, false, false, false, false, false, false, false, false] rfl rfl (any_of HT_.out (by kernel_rfl)) (fun _ _ _ h => h) (Or.inl ⟨by rfl, ?_⟩) ?_ ?_
                        rotate_left
                        · intro w'
                          go_simp
                          with_reducible rfl
                        rotate_left
                        · simp only [Act.put, List.setIfInBounds_toArray, List.set_cons_zero, List.set_cons_succ, i64_w, i32_w]
                          rfl
                        refine pure_ (i := 28) (N := some 70) (v := ?_) (a' := ?_) #[true, true, true, true, true, true, true, true, true, true, true, true, true, true, true, true, true, true, true, true, true, true, true, true, true, true, true, true, true, false, false, false, false, false, false, false, false, false, false, false, false, false, false, false, false, false, false, false, false, false] rfl rfl (any_of HT_.out (by kernel_rfl)) (fun _ _ _ h => h) (Or.inl ⟨by rfl, ?_⟩) ?_ ?_
                        rotate_left
                        · intro w'
                          go_simp
                          with_reducible rfl
                        rotate_left
                        · simp only [Act.put, List.setIfInBounds_toArray, List.set_cons_zero, List.set_cons_succ, i64_w, i32_w]
                          rfl
                        refine pure_ (i := 29) (N := some 71) (v := ?_) (a' := ?_) #[true, true, true, true, true, true, true, true, true, true, true, true, true, true, true, true, true, true, true, true, true, true, true, true, true, true, true, true, true, true, false, false, false, false, false, false, false, false, false, false, false, false, false, false, false, false, false, false, false, false] rfl rfl (any_of HT_.out (by kernel_rfl)) (fun _ _ _ h => h) (Or.inl ⟨by rfl, ?_⟩) ?_ ?_
                        rotate_left
                        · intro w'
                          go_simp
                          with_reducible rfl
                        rotate_left
                        · simp only [Act.put, List.setIfInBounds_toArray, List.set_cons_zero, List.set_cons_succ, i64_w, i32_w]
                          rfl
                        refine pure_ (i := 30) (N := some 72) (v := ?_) (a' := ?_) #[true, true, true, true, true, true, true, true, true, true, true, true, true, true, true, true, true, true, true, true, true, true, true, true, true, true, true, true, true, true, true, false, false, false, false, false, false, false, false, false, false, false, false, false, false, false, false, false, false, false] rfl rfl (any_of HT_.out (by kernel_rfl)) (fun _ _ _ h => h) (Or.inl ⟨by rfl, ?_⟩) ?_ ?_
                        rotate_left
                        · intro w'
                          go_simp
                          with_reducible rfl
                        rotate_left
                        · simp only [Act.put, List.setIfInBounds_toArray, List.set_cons_zero, List.set_cons_succ, i64_w, i32_w]
                          rfl
                        refine pure_ (i := 31) (N := some 73) (v := ?_) (a' := ?_) #[true, true, true, true, true, true, true, true, true, true, true, true, true, true, true, true, true, true, true, true, true, true, true, true, true, true, true, true, true, true, true, true, false, false, false, false, false, false, false, false, false, false, false, false, false, false, false, false, false, false] rfl rfl (any_of HT_.out (by kernel_rfl)) (fun _ _ _ h => h) (Or.inl ⟨by rfl, ?_⟩) ?_ ?_
                        rotate_left
                        · intro w'
                          go_simp
                          with_reducible rfl
                        rotate_left
                        · simp only [Act.put, List.setIfInBounds_toArray, List.set_cons_zero, List.set_cons_succ, i64_w, i32_w]
                          rfl
                        refine pure_ (i := 32) (N := some 74) (v := ?_) (a' := ?_) #[true, true, true, true, true, true, true, true, true, true, true, true, true, true, true, true, true, true, true, true, true, true, true, true, true, true, true, true, true, true, true, true, true, false, false, false, false, false, false, false, false, false, false, false, false, false, false, false, false, false] rfl rfl (any_of HT_.out (by kernel_rfl)) (fun _ _ _ h => h) (Or.inl ⟨by rfl, ?_⟩) ?_ ?_
                        rotate_left
                        · intro w'
                          go_simp
                          with_reducible rfl
                        rotate_left
                        · simp only [Act.put, List.setIfInBounds_toArray, List.set_cons_zero, List.set_cons_succ, i64_w, i32_w]
                          rfl
                        refine pure_ (i := 33) (N := some 75) (v := ?_) (a' := ?_) #[true, true, true, true, true, true, true, true, true, true, true, true, true, true, true, true, true, true, true, true, true, true, true, true, true, true, true, true, true, true, true, true, true, true, false, false, false, false, false, false, false, false, false, false, false, false, false, false, false, false] rfl rfl (any_of HT_.out (by kernel_rfl)) (fun _ _ _ h => h) (Or.inl ⟨by rfl, ?_⟩) ?_ ?_
                        rotate_left
                        · intro w'
                          go_simp
                          with_reducible rfl
                        rotate_left
                        · simp only [Act.put, List.setIfInBounds_toArray, List.set_cons_zero, List.set_cons_succ, i64_w, i32_w]
                          rfl
                        refine take_ (i := 34) (N := some 76) (v := ?_) (a' := ?_) #[true, true, true, true, true, true, true, true, true, true, true, true, true, true, true, true, true, true, true, true, true, true, true, true, true, true, true, true, true, true, true, true, true, true, true, false, false, false, false, false, false, false, false, false, false, false, false, false, false, false] rfl rfl (take_ofW HT_.out HW_.out (by kernel_rfl)) (fun _ _ _ h => h) (Or.inl ⟨by rfl, ?_⟩) hHeld ?_ ?_
                        rotate_left
                        · rintro w' ⟨s0, s1, s2, s3, s4, s5, s6, s7, s8, s9, s10, s11, s12, s13, s14, s15, s16⟩
                          go_simp
                          with_reducible rfl
                        rotate_left
                        · simp only [Act.put, List.setIfInBounds_toArray, List.set_cons_zero, List.set_cons_succ, i64_w, i32_w]
                          rfl
                        refine pure_ (i := 35) (N := some 77) (v := ?_) (a' := ?_) #[true, true, true, true, true, true, true, true, true, true, true, true, true, true, true, true, true, true, true, true, true, true, true, true, true, true, true, true, true, true, true, true, true, true, true, true, false, false, false, false, false, false, false, false, false, false, false, false, false, false] rfl rfl (any_of HT_.out (by kernel_rfl)) (fun _ _ _ h => h) (Or.inl ⟨by rfl, ?_⟩) ?_ ?_
                        rotate_left
                        · intro w'
                          go_simp
                          with_reducible rfl
                        rotate_left
                        · simp only [Act.put, List.setIfInBounds_toArray, List.set_cons_zero, List.set_cons_succ, i64_w, i32_w]
                          rfl
                        refine pure_ (i := 36) (N := some 78) (v := ?_) (a' := ?_) #[true, true, true, true, true, true, true, true, true, true, true, true, true, true, true, true, true, true, true, true, true, true, true, true, true, true, true, true, true, true, true, true, true, true, true, true, true, false, false, false, false, false, false, false, false, false, false, false, false, false] rfl rfl (any_of HT_.out (by kernel_rfl)) (fun _ _ _ h => h) (Or.inl ⟨by rfl, ?_⟩) ?_ ?_
                        rotate_left
                        · intro w'
                          go_simp
                          with_reducible rfl
                        rotate_left
                        · simp only [Act.put, List.setIfInBounds_toArray, List.set_cons_zero, List.set_cons_succ, i64_w, i32_w]
                          rfl
                        refine pure_ (i := 37) (N := some 79) (v := ?_) (a' := ?_) #[true, true, true, true, true, true, true, true, true, true, true, true, true, true, true, true, true, true, true, true, true, true, true, true, true, true, true, true, true, true, true, true, true, true, true, true, true, true, false, false, false, false, false, false, false, false, false, false, false, false] rfl rfl (any_of HT_.out (by kernel_rfl)) (fun _ _ _ h => h) (Or.inl ⟨by rfl, ?_⟩) ?_ ?_
                        rotate_left
                        · intro w'
                          go_simp
                          with_reducible rfl
                        rotate_left
                        · simp only [Act.put, List.setIfInBounds_toArray, List.set_cons_zero, List.set_cons_succ, i64_w, i32_w]
                          rfl
                        refine pure_ (i := 38) (N := some 80) (v := ?_) (a' := ?_) #[true, true, true, true, true, true, true, true, true, true, true, true, true, true, true, true, true, true, true, true, true, true, true, true, true, true, true, true, true, true, true, true, true, true, true, true, true, true, true, false, false, false, false, false, false, false, false, false, false, false] rfl rfl (any_of HT_.out (by kernel_rfl)) (fun _ _ _ h => h) (Or.inl ⟨by rfl, ?_⟩) ?_ ?_
                        rotate_left
                        · intro w'
                          go_simp
                          with_reducible rfl
                        rotate_left
                        · simp only [Act.put, List.setIfInBounds_toArray, List.set_cons_zero, List.set_cons_succ, i64_w, i32_w]
                          rfl
                        refine pure_ (i := 39) (N := some 81) (v := ?_) (a' := ?_) #[true, true, true, true, true, true, true, true, true, true, true, true, true, true, true, true, true, true, true, true, true, true, true, true, true, true, true, true, true, true, true, true, true, true, true, true, true, true, true, true, false, false, false, false, false, false, false, false, false, false] rfl rfl (any_of HT_.out (by kernel_rfl)) (fun _ _ _ h => h) (Or.inl ⟨by rfl, ?_⟩) ?_ ?_
                        rotate_left
                        · intro w'
                          go_simp
                          with_reducible rfl
                        rotate_left
                        · simp only [Act.put, List.setIfInBounds_toArray, List.set_cons_zero, List.set_cons_succ, i64_w, i32_w]
                          rfl
                        refine pure_ (i := 40) (N := some 82) (v := ?_) (a' := ?_) #[true, true, true, true, true, true, true, true, true, true, true, true, true, true, true, true, true, true, true, true, true, true, true, true, true, true, true, true, true, true, true, true, true, true, true, true, true, true, true, true, true, false, false, false, false, false, false, false, false, false] rfl rfl (any_of HT_.out (by kernel_rfl)) (fun _ _ _ h => h) (Or.inl ⟨by rfl, ?_⟩) ?_ ?_
                        rotate_left
                        · intro w'
                          go_simp
                          with_reducible rfl
                        rotate_left
                        · simp only [Act.put, List.setIfInBounds_toArray, List.set_cons_zero, List.set_cons_succ, i64_w, i32_w]
                          rfl
                        refine pure_ (i := 41) (N := some 83) (v := ?_) (a' := ?_) #[true, true, true, true, true, true, true, true, true, true, true, true, true, true, true, true, true, true, true, true, true, true, true, true, true, true, true, true, true, true, true, true, true, true, true, true, true, true, true, true, true, true, false, false, false, false, false, false, false, false] rfl rfl (any_of HT_.out (by kernel_rfl)) (fun _ _ _ h => h) (Or.inl ⟨by rfl, ?_⟩) ?_ ?_
                        rotate_left
                        · intro w'
                          go_simp
                          with_reducible rfl
                        rotate_left
                        · simp only [Act.put, List.setIfInBounds_toArray, List.set_cons_zero, List.set_cons_succ, i64_w, i32_w]
                          rfl
                        refine pure_ (i := 42) (N := some 84) (v := ?_) (a' := ?_) #[true, true, true, true, true, true, true, true, true, true, true, true, true, true, true, true, true, true, true, true, true, true, true, true, true, true, true, true, true, true, true, true, true, true, true, true, true, true, true, true, true, true, true, false, false, false, false, false, false, false] rfl rfl (any_of HT_.out (by kernel_rfl)) (fun _ _ _ h => h) (Or.inl ⟨by rfl, ?_⟩) ?_ ?_
                        rotate_left
                        · intro w'
                          go_simp
                          with_reducible rfl
                        rotate_left
                        · simp only [Act.put, List.setIfInBounds_toArray, List.set_cons_zero, List.set_cons_succ, i64_w, i32_w]
                          rfl
                        refine pure_ (i := 43) (N := some 85) (v := ?_) (a' := ?_) #[true, true, true, true, true, true, true, true, true, true, true, true, true, true, true, true, true, true, true, true, true, true, true, true, true, true, true, true, true, true, true, true, true, true, true, true, true, true, true, true, true, true, true, true, false, false, false, false, false, false] rfl rfl (any_of HT_.out (by kernel_rfl)) (fun _ _ _ h => h) (Or.inl ⟨by rfl, ?_⟩) ?_ ?_
                        rotate_left
                        · intro w'
                          go_simp
                          with_reducible rfl
                        rotate_left
                        · simp only [Act.put, List.setIfInBounds_toArray, List.set_cons_zero, List.set_cons_succ, i64_w, i32_w]
                          rfl
                        refine pure_ (i := 44) (N := some 86) (v := ?_) (a' := ?_) #[true, true, true, true, true, true, true, true, true, true, true, true, true, true, true, true, true, true, true, true, true, true, true, true, true, true, true, true, true, true, true, true, true, true, true, true, true, true, true, true, true, true, true, true, true, false, false, false, false, false] rfl rfl (any_of HT_.out (by kernel_rfl)) (fun _ _ _ h => h) (Or.inl ⟨by rfl, ?_⟩) ?_ ?_
                        rotate_left
                        · intro w'
                          go_simp
                          with_reducible rfl
                        rotate_left
                        · simp only [Act.put, List.setIfInBounds_toArray, List.set_cons_zero, List.set_cons_succ, i64_w, i32_w]
                          rfl
                        refine pure_ (i := 45) (N := some 87) (v := ?_) (a' := ?_) #[true, true, true, true, true, true, true, true, true, true, true, true, true, true, true, true, true, true, true, true, true, true, true, true, true, true, true, true, true, true, true, true, true, true, true, true, true, true, true, true, true, true, true, true, true, true, false, false, false, false] rfl rfl (any_of HT_.out (by kernel_rfl)) (fun _ _ _ h => h) (Or.inl ⟨by rfl, ?_⟩) ?_ ?_
                        rotate_left
                        · intro w'
                          go_simp
                          with_reducible rfl
                        rotate_left
                        · simp only [Act.put, List.setIfInBounds_toArray, List.set_cons_zero, List.set_cons_succ, i64_w, i32_w]
                          rfl
                        refine pure_ (i := 46) (N := some 88) (v := ?_) (a' := ?_) #[true, true, true, true, true, true, true, true, true, true, true, true, true, true, true, true, true, true, true, true, true, true, true, true, true, true, true, true, true, true, true, true, true, true, true, true, true, true, true, true, true, true, true, true, true, true, true, false, false, false] rfl rfl (any_of HT_.out (by kernel_rfl)) (fun _ _ _ h => h) (Or.inl ⟨by rfl, ?_⟩) ?_ ?_
                        rotate_left
                        · intro w'
                          go_simp
                          with_reducible rfl
                        rotate_left
                        · simp only [Act.put, List.setIfInBounds_toArray, List.set_cons_zero, List.set_cons_succ, i64_w, i32_w]
                          rfl
                        refine pure_ (i := 47) (N := some 89) (v := ?_) (a' := ?_) #[true, true, true, true, true, true, true, true, true, true, true, true, true, true, true, true, true, true, true, true, true, true, true, true, true, true, true, true, true, true, true, true, true, true, true, true, true, true, true, true, true, true, true, true, true, true, true, true, false, false] rfl rfl (any_of HT_.out (by kernel_rfl)) (fun _ _ _ h => h) (Or.inl ⟨by rfl, ?_⟩) ?_ ?_
                        rotate_left
                        · intro w'
                          go_simp
                          with_reducible rfl
                        rotate_left
                        · simp only [Act.put, List.setIfInBounds_toArray, List.set_cons_zero, List.set_cons_succ, i64_w, i32_w]
                          rfl
                        refine pure_ (i := 48) (N := some 90) (v := ?_) (a' := ?_) #[true, true, true, true, true, true, true, true, true, true, true, true, true, true, true, true, true, true, true, true, true, true, true, true, true, true, true, true, true, true, true, true, true, true, true, true, true, true, true, true, true, true, true, true, true, true, true, true, true, false] rfl rfl (any_of HT_.out (by kernel_rfl)) (fun _ _ _ h => h) (Or.inl ⟨by rfl, ?_⟩) ?_ ?_
                        rotate_left
                        · intro w'
                          go_simp
                          with_reducible rfl
                        rotate_left
                        · simp only [Act.put, List.setIfInBounds_toArray, List.set_cons_zero, List.set_cons_succ, i64_w, i32_w]
                          rfl
                        refine pure_ (i := 49) (N := some 0) (v := ?_) (a' := ?_) #[true, true, true, true, true, true, true, true, true, true, true, true, true, true, true, true, true, true, true, true, true, true, true, true, true, true, true, true, true, true, true, true, true, true, true, true, true, true, true, true, true, true, true, true, true, true, true, true, true, true] rfl rfl (any_of HT_.out (by kernel_rfl)) (fun _ _ _ h => h) (Or.inl ⟨by rfl, ?_⟩) ?_ ?_
                        rotate_left
                        · intro w'
                          go_simp
                          with_reducible rfl
                        rotate_left
                        · simp only [Act.put, List.setIfInBounds_toArray, List.set_cons_zero, List.set_cons_succ, i64_w, i32_w]
                          rfl
                        refine done_ (done_of HT_.out (by kernel_rfl)) ?_
                        try go_wp2
                        go_ret
                        exact ⟨by first | rfl | (simp [errW_none, errW_some] <;> rfl) | (simp [*, errW_none, errW_some] <;> rfl), by repeat (first | (with_reducible first | exact HB.out | apply bX_ | apply bW_ | apply bY_ | refine bS_ ?_ GE130.out | refine bS_ ?_ GE145.out | refine bS_ ?_ GE170.out) | exact HB.out)⟩
                      · exact absurd ((wkP A4.out).2.2) c18
                    · exact absurd ((wkP A4.out).2.1) c17
                  · exact absurd (wkC16 A4.out) c16
                · exact absurd ((wkT2 Ny131.out A2.out).2.2.2.2.2.2.2.2.2.2) c15
              · exact absurd ((wkT2 Ny131.out A2.out).2.2.2.2.2.2.2.2.2.1) c14
            · exact absurd (wkC13 Ny131.out A2.out A12.out) c13
          · exact absurd ((wkT2 Ny131.out A2.out).1) c11
        · exact absurd ((wkT1 Ny116.out A1.out).2.2.2.2.2.2.2.2.2.2) c10
      · exact absurd ((wkT1 Ny116.out A1.out).2.2.2.2.2.2.2.2.2.1) c9
    · exact absurd (wkC8 Ny116.out A1.out A7.out) c8
  · exact absurd ((wkT1 Ny116.out A1.out).1) c6
end Go.Proofs.YtppeidopijnnlaaDoor.B
