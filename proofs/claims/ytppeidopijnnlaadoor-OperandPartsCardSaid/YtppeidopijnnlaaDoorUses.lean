import Derived.Test.YtppeidopijnnlaaDoorSeq
import Derived.Shelf.Abstract
namespace Go.Proofs.YtppeidopijnnlaaDoor.B
open Go.RowKit Go.Proofs.YtppeidopijnnlaaDoorW.PrintWords Go.Proofs.YtppeidopijnnlaaDoorW.PrintMore Go.RF
set_option linter.unusedVariables false
set_option linter.unusedSimpArgs false
attribute [local go_sem] Oper.semAt_some
theorem R_of_own {k : IntKind} {e : Nat} {W : World} {base : Nat} {v : Value} {xs : List Int} (h : W.ownsRow base e 1 v xs.length (nums k xs)) : Kd.R (Kd.int k) e W base (fun _ => True) v xs :=
  ⟨fun _ _ => trivial, nums k xs, h, by simp [nums, Kd.int, Kd.scalar], fun j p hj => by
    show ((nums k xs).drop (j * 1)).take 1 = [Value.int k p]
    rw [Nat.mul_one]
    have hjl := (List.getElem?_eq_some_iff.1 hj).1
    rw [List.drop_eq_getElem_cons (by simpa [nums] using hjl)]
    simp [nums, (List.getElem?_eq_some_iff.1 hj).2]⟩
theorem regL_len (k b i : Int) : (regL k b i 0).length ≤ 2 := by
  have h : ∀ r, (regP k r).length ≤ 1 := fun r => by unfold regP; split <;> simp
  have := h b
  have := h i
  simp [regL]; omega
/-- an operand, as a call takes it -/
abbrev opV (f0 f1 f2 f3 f4 f5 f7 : Int) (f6 : Bool) : Array Value := #[.int .u8 f0, .int .i64 f1, .int .i64 f2, .int .i64 f3, .int .i64 f4, .int .i64 f5, .bool f6, .int .i64 f7]
set_option maxRecDepth 100000 in
theorem registers_calls (f0 f1 f2 f3 f4 f5 f7 : Int) (f6 : Bool) (w : World) :
    Calls Tryd.prog 34 #[.agg #[.int .u8 f0, .int .i64 f1, .int .i64 f2, .int .i64 f3, .int .i64 f4, .int .i64 f5, .bool f6, .int .i64 f7]] w fun e w' =>
      e = .returned (.func (.func 39) #[] #[.pointer (some ⟨w.heap.size, 0, none⟩)]) ∧ w'.heap[w.heap.size]? = some (.cells (opV f0 f1 f2 f3 f4 f5 f7 f6) 23 (0, 0)) ∧ Below w.heap.size w w' := by
  go_enter Tryd.func34, Tryd.ntmps34
  go_wp2_with fail
  go_ret
  exact ⟨rfl, World.alloc_heap_new w _, below_alloc (Below.refl _ _) _⟩
set_option maxRecDepth 100000 in
theorem collect_calls (gf : Nat) (lb : Array Value) (L : List Int) (w : World) (hL : L.length ≤ 1000000) (heg : ∀ args w, (callFunc gf args).run Tryd.prog w = .ok (.enter gf args) w)
    (hit : ∀ W, Keeps (fun _ => False) w W → Iter Tryd.prog gf lb encI (fun _ => False) (fun k => k = w.heap.size) L W) :
    Calls Tryd.prog 33 #[.func (.func gf) #[] lb] w fun e w' => ∃ v, e = .returned v ∧ w'.ownsRow w.heap.size 3 1 v L.length (nums .i64 L) ∧ Below w.heap.size w w' := by
  have H := Aside0.mk (appendSeq_calls gf lb L w hL heg hit)
  clear hit heg
  go_enter Tryd.func33, Tryd.ntmps33
  go_wp2_with fail
  refine H.out.mono ?_
  rintro e w1 ⟨v, rfl, ho, hb⟩
  have HO := Aside0.mk ho
  have HB := Aside0.mk hb
  clear ho hb
  go_wp2
  go_ret
  exact ⟨_, rfl, HO.out, HB.out⟩
set_option maxHeartbeats 8000000 in
set_option maxRecDepth 100000 in
theorem uses_calls (f0 f1 f2 f3 f4 f5 f7 : Int) (f6 : Bool) (w : World) :
    Calls Tryd.prog 17 #[.agg #[.int .u8 f0, .int .i64 f1, .int .i64 f2, .int .i64 f3, .int .i64 f4, .int .i64 f5, .bool f6, .int .i64 f7]] w fun e w' =>
      ∃ v, e = .returned v ∧ Kd.R (Kd.int .i64) 3 w' w.heap.size (fun _ => True) v (regL f0 f2 f3 0) ∧ Below w.heap.size w w' := by
  go_enter Tryd.func17, Tryd.ntmps17
  go_wp2_with fail
  have hb0 : Below w.heap.size w (w.alloc (.cells (opV f0 f1 f2 f3 f4 f5 f7 f6) 23)) := below_alloc (Below.refl _ _) _
  have hsz : (w.alloc (.cells (opV f0 f1 f2 f3 f4 f5 f7 f6) 23)).heap.size = w.heap.size + 1 := World.size_alloc _ _
  have HB0 := Aside0.mk hb0
  have HSZ := Aside0.mk hsz
  clear hb0 hsz
  generalize w.alloc (.cells (opV f0 f1 f2 f3 f4 f5 f7 f6) 23) = w0 at *
  refine (registers_calls f0 f1 f2 f3 f4 f5 f7 f6 _).mono ?_
  rintro e w1 ⟨rfl, hbo, hb1⟩
  have HBO := Aside0.mk hbo
  have HB1 := Aside0.mk hb1
  clear hbo hb1
  go_wp2_with fail
  refine (collect_calls 39 _ (regL f0 f2 f3 0) w1 (by have := regL_len f0 f2 f3; omega) (enters_of Tryd.func39 (by kernel_rfl) rfl) (fun W hk => regs_iter _ f0 f1 f2 f3 f4 f5 f7 f6 W _ (hk.at_ HBO.out (fun h => h)) (fun k h => by
    have := (Array.getElem?_eq_some_iff.1 HBO.out).1
    omega))).mono ?_
  rintro e w2 ⟨v, rfl, ho, hb2⟩
  have HO := Aside0.mk ho
  have HB2 := Aside0.mk hb2
  clear ho hb2
  go_wp2
  go_ret
  have hs1 := HB1.out.size
  rw [HSZ.out] at hs1
  exact ⟨_, rfl, R_of_own (own_less HO.out (by omega)), below_step (below_step HB0.out HB1.out) HB2.out⟩
end Go.Proofs.YtppeidopijnnlaaDoor.B
