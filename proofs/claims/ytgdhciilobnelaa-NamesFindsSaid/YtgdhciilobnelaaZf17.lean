/- NamesFinds walked. -/
import Derived.Test.YtgdhciilobnelaaZf15
import Derived.Test.YtgdhciilobnelaaZf16
namespace Go.Proofs.Ytgdhciilobnelaa.B
open Go.RowKit Go.Lib Go.Proofs.YtgdhciilobnelaaW.PrintWords Go.Proofs.YtgdhciilobnelaaW.PrintLast Go.Proofs.YtgdhciilobnelaaW.PrintMore Go.RF
set_option linter.unusedVariables false
set_option linter.unusedSimpArgs false
attribute [local go_sem] max2_int min2_int max_two min_two
set_option maxHeartbeats 8000000 in
set_option maxRecDepth 100000 in
theorem finds_wakes (A : Option Addr) (c n : Nat) (C : List S38) (nm : ByteArray) (w0 : World) (hC : Kd.C k38 w0 A C.length C) (hn : C.length = n) (h : 100 < n) : Calls Try.prog 6 #[.slice A n c, .string nm] w0 fun e w' => e = .returned (.bool true) ∧ Below w0.heap.size w0 w' := by
  go_enter Try.func6, Try.ntmps6
  go_upto_region 0 with (fail)
  refine RS.wp_textE [(4, .bool false)] (fun f w => w0 = w) (by kernel_rfl) (by kernel_rfl) (fun f hf => ?_) ?_ ?_
  · rfl
  · exact ⟨RS.StepE.pure 4 (by kernel_rfl) rfl (fun w => by kernel_rfl) (fun f w h => h), trivial⟩
  rintro f wx hf rfl
  clear hf
  (try simp only [RS.sets, List.setIfInBounds_toArray, List.set_cons_zero, List.set_cons_succ])
  go_upto_region 1 with (fail)
  refine RS.wp_textE [(17, .slice A n c), (18, .int .i64 ((n : Nat) : Int)), (19, .bool true)] (fun f w => w0 = w) (by kernel_rfl) (by kernel_rfl) (fun f hf => ?_) ?_ ?_
  · rfl
  · exact ⟨RS.StepE.pure 17 (by kernel_rfl) rfl (fun w => by kernel_rfl) (fun f w h => h),
      RS.StepE.pure 18 (by kernel_rfl) rfl (fun w => by kernel_rfl) (fun f w h => h),
      RS.StepE.load 19 (.bool true) (by kernel_rfl) (by kernel_rfl) rfl (fun f w h => h) (fun f w p1 p2 h => n_gtr (a := n) (b := 100) (r := true) (decide_eq_true (show 100 < n from by omega)) rfl (by kernel_rfl) (by kernel_rfl)), trivial⟩
  rintro f wx hf rfl
  clear hf
  (try simp only [RS.sets, List.setIfInBounds_toArray, List.set_cons_zero, List.set_cons_succ])
  go_wp2_with (go_at_call 8; refine (wakes_calls _).mono ?_; rintro e w1 ⟨rfl, hb⟩; have HB := Aside0.mk hb; clear hb)
  go_ret
  exact ⟨rfl, HB.out⟩
def hitS (nm : ByteArray) (x : S38) : Bool := x.f3 && (x.f0.toList == nm.toList)
theorem find_hit {C : List S38} {nm : ByteArray} {i : Nat} (hi : i < C.length) (h : ∀ j, j < i → hitS nm (C.getD j z38) = false) (hh : hitS nm (C.getD i z38) = true) : findP C nm = (C.getD i z38, 0) :=
  findP_at hi (fun y hy => by rw [List.getD_eq_getElem?_getD, hy] at hh; exact hh) (fun k y hk hy => by have := h k hk; rw [List.getD_eq_getElem?_getD, hy] at this; exact this)
theorem find_miss {C : List S38} {nm : ByteArray} (h : ∀ j, j < C.length → hitS nm (C.getD j z38) = false) : findP C nm = (z38, 40) :=
  findP_no (fun x hx => by
    obtain ⟨j, hj, rfl⟩ := List.mem_iff_getElem.1 hx
    have := h j hj
    rw [List.getD_eq_getElem?_getD, List.getElem?_eq_getElem hj] at this
    exact this)
theorem s_eq9 {o : Oper} {ρ : Operand → Value} {x y : Operand} {a b : ByteArray} {r : Bool} {w : World} (h : (a.toList == b.toList) = r) (ho : o.op = .binOp .eql 9 x y 9) (hx : ρ x = .string a) (hy : ρ y = .string b) : (execOp ρ o).run Try.prog w = .ok (.value (.bool r)) w := by
  refine run_bin ho hx hy (by rfl) ?_
  subst h
  simp [binOp, Op.stringOp]
set_option maxHeartbeats 8000000 in
set_option maxRecDepth 100000 in
theorem finds_main (A : Option Addr) (c n : Nat) (C : List S38) (nm : ByteArray) (w0 : World) (hC : Kd.C k38 w0 A C.length C) (hn : C.length = n) (h5 : n ≤ 100) : Calls Try.prog 6 #[.slice A n c, .string nm] w0 fun e w' => e = .returned (.bool true) ∧ Below w0.heap.size w0 w' := by
  have HC := Aside0.mk hC
  have HN := Aside0.mk hn
  have hu38 := Aside0.mk Try.underlying38
  have B0 := Aside0.mk (Below.refl w0.heap.size w0)
  clear hC hn
  go_enter Try.func6, Try.ntmps6
  go_upto_region 0 with (fail)
  refine RS.wp_textE [(4, .bool false)] (fun f w => w0 = w) (by kernel_rfl) (by kernel_rfl) (fun f hf => ?_) ?_ ?_
  · rfl
  · exact ⟨RS.StepE.pure 4 (by kernel_rfl) rfl (fun w => by kernel_rfl) (fun f w h => h), trivial⟩
  rintro f wx hf rfl
  clear hf
  (try simp only [RS.sets, List.setIfInBounds_toArray, List.set_cons_zero, List.set_cons_succ])
  go_upto_region 1 with (fail)
  refine RS.wp_textE [(17, .slice A n c), (18, .int .i64 ((n : Nat) : Int)), (19, .bool false)] (fun f w => w0 = w) (by kernel_rfl) (by kernel_rfl) (fun f hf => ?_) ?_ ?_
  · rfl
  · exact ⟨RS.StepE.pure 17 (by kernel_rfl) rfl (fun w => by kernel_rfl) (fun f w h => h),
      RS.StepE.pure 18 (by kernel_rfl) rfl (fun w => by kernel_rfl) (fun f w h => h),
      RS.StepE.load 19 (.bool false) (by kernel_rfl) (by kernel_rfl) rfl (fun f w h => h) (fun f w p1 p2 h => n_gtr (a := n) (b := 100) (r := false) (decide_eq_false (show ¬ (100 < n) from by omega)) rfl (by kernel_rfl) (by kernel_rfl)), trivial⟩
  rintro f wx hf rfl
  clear hf
  (try simp only [RS.sets, List.setIfInBounds_toArray, List.set_cons_zero, List.set_cons_succ])
  go_upto_region 3 with (fail)
  refine wp_region_lit ?_
  refine RS.t1 22 rfl (by kernel_rfl) (.slice A n c) (by kernel_rfl) ?_
  (try simp only [Act.put, List.setIfInBounds_toArray, List.set_cons_zero, List.set_cons_succ])
  refine RS.t1 23 rfl (by kernel_rfl) (.string nm) (by kernel_rfl) ?_
  (try simp only [Act.put, List.setIfInBounds_toArray, List.set_cons_zero, List.set_cons_succ])
  refine RS.tC 24 rfl (by kernel_rfl) (show _ = Result.ok (Next.enter 14 #[.slice A n c, .string nm]) _ from by kernel_rfl) ?_
  refine (find_calls A c n nm C w0 HC.out HN.out (by omega)).mono ?_
  rintro e w1_ ⟨rfl, hb_⟩
  have B2_ := Aside0.mk (below_step B0.out hb_)
  clear hb_ B0
  refine ⟨_, rfl, ?_⟩
  (try simp only [Act.put, List.setIfInBounds_toArray, List.set_cons_zero, List.set_cons_succ])
  refine RS.t1 21 rfl (by kernel_rfl) (.tuple #[.agg (encS (findP C nm).1), .int .i64 (findP C nm).2]) (by kernel_rfl) ?_
  (try simp only [Act.put, List.setIfInBounds_toArray, List.set_cons_zero, List.set_cons_succ])
  refine RS.t1 25 rfl (by kernel_rfl) (.agg (encS (findP C nm).1)) (by kernel_rfl) ?_
  (try simp only [Act.put, List.setIfInBounds_toArray, List.set_cons_zero, List.set_cons_succ])
  refine RS.t1 26 rfl (by kernel_rfl) (.int .i64 (findP C nm).2) (by kernel_rfl) ?_
  (try simp only [Act.put, List.setIfInBounds_toArray, List.set_cons_zero, List.set_cons_succ])
  obtain ⟨g5, hg_⟩ : ∃ g_, w1_.heap.size = g_ := ⟨_, rfl⟩
  refine RS.tE 5 rfl (by kernel_rfl) (v := .pointer (some ⟨g5, 0, none⟩)) ((show _ = Result.ok (.value (.pointer (some ⟨w1_.heap.size, 0, none⟩))) (w1_.alloc (.cells #[.string ⟨#[]⟩, .int .u64 0, .int .u64 0, .bool false] 38 (0, 0))) from by kernel_rfl).trans (by rw [hg_])) ?_
  obtain ⟨w3_, hw_⟩ : ∃ w_, w1_.alloc (.cells #[.string ⟨#[]⟩, .int .u64 0, .int .u64 0, .bool false] 38 (0, 0)) = w_ := ⟨_, rfl⟩
  rw [hw_]
  have hb_ : Below w1_.heap.size w1_ w3_ := by rw [← hw_]; exact bX_ (Below.refl _ _) _
  have hn_ : w3_.heap[g5]? = some (.cells #[.string ⟨#[]⟩, .int .u64 0, .int .u64 0, .bool false] 38 (0, 0)) := by rw [← hw_, ← hg_]; exact World.alloc_heap_new w1_ _
  have G4_ := Aside0.mk (show w0.heap.size ≤ g5 from by have := B2_.out.size; omega)
  have B5_ := Aside0.mk (below_step B2_.out hb_)
  have N6_ := Aside0.mk hn_
  clear hw_ hb_ hn_ hg_ B2_
  (try simp only [Act.put, List.setIfInBounds_toArray, List.set_cons_zero, List.set_cons_succ])
  refine RS.tS rfl (by kernel_rfl) (run_store_row (g := g5) (cells := (encS (findP C nm).1)) rfl (by kernel_rfl) (by kernel_rfl) N6_.out (by kernel_rfl) rfl (by simp [encS, Value.oneCell'])) ?_
  obtain ⟨w7_, hw_⟩ : ∃ w_, w3_.setRow g5 (encS (findP C nm).1) = w_ := ⟨_, rfl⟩
  rw [hw_]
  have B8_ := Aside0.mk (show Below w0.heap.size w0 w7_ from by rw [← hw_]; exact below_setRow B5_.out G4_.out _)
  have N9_ := Aside0.mk (show w7_.heap[g5]? = some (.cells (encS (findP C nm).1) 38 (0, 0)) from by rw [← hw_]; exact setRow_heap w3_ g5 _ _ 38 (0, 0) N6_.out)
  clear hw_ B5_ N6_
  refine RS.t1 6 rfl (by kernel_rfl) (.int .i64 (findP C nm).2) (by kernel_rfl) ?_
  (try simp only [Act.put, List.setIfInBounds_toArray, List.set_cons_zero, List.set_cons_succ])
  go_upto_region 4 with (fail)
  refine RS.wp_textE [(7, .bool false)] (fun f w => w7_ = w) (by kernel_rfl) (by kernel_rfl) (fun f hf => ?_) ?_ ?_
  · rfl
  · exact ⟨RS.StepE.pure 7 (by kernel_rfl) rfl (fun w => by kernel_rfl) (fun f w h => h), trivial⟩
  rintro f wx hf rfl
  clear hf
  (try simp only [RS.sets, List.setIfInBounds_toArray, List.set_cons_zero, List.set_cons_succ])
  go_upto_region 5 with (fail)
  refine RS.wp_textE [(8, .int .i64 ((0 : Nat) : Int))] (fun f w => w7_ = w) (by kernel_rfl) (by kernel_rfl) (fun f hf => ?_) ?_ ?_
  · rfl
  · exact ⟨RS.StepE.pure 8 (by kernel_rfl) rfl (fun w => by kernel_rfl) (fun f w h => h), trivial⟩
  rintro f wx hf rfl
  clear hf
  (try simp only [RS.sets, List.setIfInBounds_toArray, List.set_cons_zero, List.set_cons_succ])
  go_upto_region 6 with (fail)
  go_loopw [7, 8] (fun s t wr => ∃ i : Nat, i ≤ n ∧ t = .int .i64 (i : Int) ∧ ((s = .bool false ∧ ∀ j, j < i → hitS nm (C.getD j z38) = false) ∨ (s = .bool true ∧ (findP C nm).2 = 0)) ∧ Below w7_.heap.size w7_ wr) (fun s t _ => ((n : Int) - intOf t).toNat)
  case atStart => exact ⟨0, Nat.zero_le _, rfl, .inl ⟨rfl, fun j hj => by omega⟩, Below.refl _ _⟩
  case round =>
    obtain ⟨i, hi, rfl, hor, hb⟩ := hrel
    have HB := Aside0.mk hb
    clear hb
    rcases hor with ⟨rfl, hno⟩ | ⟨rfl, hz⟩
    · have HNO := Aside0.mk hno
      clear hno
      by_cases hin : i < n
      · go_upto_region 6 with (fail)
        refine RS.wp_textE [(27, .int .i64 ((i : Nat) : Int)), (28, .slice A n c), (29, .int .i64 ((n : Nat) : Int)), (30, .bool true), (31, .bool true), (32, .bool false), (33, .bool true), (34, .bool true)] (fun f w => wr = w) (by kernel_rfl) (by kernel_rfl) (fun f hf => ?_) ?_ ?_
        · rfl
        · exact ⟨RS.StepE.pure 27 (by kernel_rfl) rfl (fun w => by kernel_rfl) (fun f w h => h),
            RS.StepE.pure 28 (by kernel_rfl) rfl (fun w => by kernel_rfl) (fun f w h => h),
            RS.StepE.pure 29 (by kernel_rfl) rfl (fun w => by kernel_rfl) (fun f w h => h),
            RS.StepE.load 30 (.bool true) (by kernel_rfl) (by kernel_rfl) rfl (fun f w h => h) (fun f w p1 p2 h => n_lss (a := i) (b := n) (r := true) (decide_eq_true (show i < n from by omega)) rfl (by kernel_rfl) (by kernel_rfl)),
            RS.StepE.pure 31 (by kernel_rfl) rfl (fun w => by kernel_rfl) (fun f w h => h),
            RS.StepE.pure 32 (by kernel_rfl) rfl (fun w => by kernel_rfl) (fun f w h => h),
            RS.StepE.pure 33 (by kernel_rfl) rfl (fun w => by kernel_rfl) (fun f w h => h),
            RS.StepE.pure 34 (by kernel_rfl) rfl (fun w => by kernel_rfl) (fun f w h => h), trivial⟩
        rintro f wx hf rfl
        clear hf
        (try simp only [RS.sets, List.setIfInBounds_toArray, List.set_cons_zero, List.set_cons_succ])
        obtain ⟨ad, ea, -, hx0, -, -, hx3⟩ := el38 (Kd.C_below HC.out (below_step B8_.out HB.out)) HN.out i hin
        subst ea
        obtain ⟨x, hx⟩ : ∃ x, C.getD i z38 = x := ⟨_, rfl⟩
        rw [hx] at hx0 hx3
        have HX := Aside0.mk hx
        have X0 := Aside0.mk hx0
        clear hx hx0
        have RW := Aside0.mk (Below.refl wr.heap.size wr)
        cases hf3 : x.f3
        · rw [hf3] at hx3
          have X3 := Aside0.mk hx3
          have HF3 := Aside0.mk hf3
          clear hx3 hf3
          go_upto_region 8 with (fail)
          refine RS.wp_textE [(37, .slice (some ad) n c), (38, .int .i64 ((i : Nat) : Int)), (39, .pointer (some (ad.add (i * 4)))), (40, .pointer (some ⟨(ad.add (i * 4)).block, (ad.add (i * 4)).off + 3, none⟩)), (41, .bool false), (42, .bool false), (43, undef), (44, undef), (45, undef), (46, undef), (47, undef), (48, undef), (49, undef), (50, .bool false)] (fun f wq => Below wr.heap.size wr wq) (by kernel_rfl) (by kernel_rfl) (fun f hf => ?_) ?_ ?_
          · exact RW.out
          · exact ⟨RS.StepE.pure 37 (by kernel_rfl) rfl (fun w => by kernel_rfl) (fun f w h => h),
              RS.StepE.pure 38 (by kernel_rfl) rfl (fun w => by kernel_rfl) (fun f w h => h),
              RS.StepE.load 39 (.pointer (some (ad.add (i * 4)))) (by kernel_rfl) (by kernel_rfl) rfl (fun f w h => h) (fun f wq p1 p2 h => idx33 (n := n) (c := c) (i := i) hin rfl (by kernel_rfl) (by kernel_rfl)),
              RS.StepE.pure 40 (by kernel_rfl) rfl (fun w => by kernel_rfl) (fun f w h => h),
              RS.StepE.load 41 (.bool false) (by kernel_rfl) (by kernel_rfl) rfl (fun f w h => h) (fun f wq p1 p2 h => ld (d := .bool) Try.underlying4 rfl (pw_cell_below h X3.out) rfl (by kernel_rfl)),
              RS.StepE.pure 42 (by kernel_rfl) rfl (fun w => by kernel_rfl) (fun f w h => h),
              RS.StepE.off 43 (by kernel_rfl) rfl (by kernel_rfl) (fun f w h => h),
              RS.StepE.off 44 (by kernel_rfl) rfl (by kernel_rfl) (fun f w h => h),
              RS.StepE.off 45 (by kernel_rfl) rfl (by kernel_rfl) (fun f w h => h),
              RS.StepE.off 46 (by kernel_rfl) rfl (by kernel_rfl) (fun f w h => h),
              RS.StepE.off 47 (by kernel_rfl) rfl (by kernel_rfl) (fun f w h => h),
              RS.StepE.off 48 (by kernel_rfl) rfl (by kernel_rfl) (fun f w h => h),
              RS.StepE.off 49 (by kernel_rfl) rfl (by kernel_rfl) (fun f w h => h),
              RS.StepE.pure 50 (by kernel_rfl) rfl (fun w => by kernel_rfl) (fun f w h => h), trivial⟩
          rintro f w_ hf hs
          have RW2 := Aside0.mk hs
          clear hf hs
          (try simp only [RS.sets, List.setIfInBounds_toArray, List.set_cons_zero, List.set_cons_succ])
          go_wp2_with fail
          exact ⟨⟨i + 1, by omega, by go_num, .inl ⟨rfl, fun j hj => by
            by_cases hji : j = i
            · rw [hji, HX.out]; unfold hitS; rw [HF3.out]; rfl
            · exact HNO.out j (by omega)⟩, below_step HB.out RW2.out⟩, by simp [intOf]; omega⟩
        · rw [hf3] at hx3
          have X3 := Aside0.mk hx3
          have HF3 := Aside0.mk hf3
          clear hx3 hf3
          cases hnm : (x.f0.toList == nm.toList)
          · have HNM := Aside0.mk hnm
            clear hnm
            go_upto_region 8 with (fail)
            refine RS.wp_textE [(37, .slice (some ad) n c), (38, .int .i64 ((i : Nat) : Int)), (39, .pointer (some (ad.add (i * 4)))), (40, .pointer (some ⟨(ad.add (i * 4)).block, (ad.add (i * 4)).off + 3, none⟩)), (41, .bool true), (42, .bool true), (43, .slice (some ad) n c), (44, .int .i64 ((i : Nat) : Int)), (45, .pointer (some (ad.add (i * 4)))), (46, .pointer (some (ad.add (i * 4)))), (47, .string x.f0), (48, .string nm), (49, .bool false), (50, .bool false)] (fun f wq => Below wr.heap.size wr wq) (by kernel_rfl) (by kernel_rfl) (fun f hf => ?_) ?_ ?_
            · exact RW.out
            · exact ⟨RS.StepE.pure 37 (by kernel_rfl) rfl (fun w => by kernel_rfl) (fun f w h => h),
                RS.StepE.pure 38 (by kernel_rfl) rfl (fun w => by kernel_rfl) (fun f w h => h),
                RS.StepE.load 39 (.pointer (some (ad.add (i * 4)))) (by kernel_rfl) (by kernel_rfl) rfl (fun f w h => h) (fun f wq p1 p2 h => idx33 (n := n) (c := c) (i := i) hin rfl (by kernel_rfl) (by kernel_rfl)),
                RS.StepE.pure 40 (by kernel_rfl) rfl (fun w => by kernel_rfl) (fun f w h => h),
                RS.StepE.load 41 (.bool true) (by kernel_rfl) (by kernel_rfl) rfl (fun f w h => h) (fun f wq p1 p2 h => ld (d := .bool) Try.underlying4 rfl (pw_cell_below h X3.out) rfl (by kernel_rfl)),
                RS.StepE.pure 42 (by kernel_rfl) rfl (fun w => by kernel_rfl) (fun f w h => h),
                RS.StepE.pure 43 (by kernel_rfl) rfl (fun w => by kernel_rfl) (fun f w h => h),
                RS.StepE.pure 44 (by kernel_rfl) rfl (fun w => by kernel_rfl) (fun f w h => h),
                RS.StepE.load 45 (.pointer (some (ad.add (i * 4)))) (by kernel_rfl) (by kernel_rfl) rfl (fun f w h => h) (fun f wq p1 p2 h => idx33 (n := n) (c := c) (i := i) hin rfl (by kernel_rfl) (by kernel_rfl)),
                RS.StepE.pure 46 (by kernel_rfl) rfl (fun w => by kernel_rfl) (fun f w h => h),
                RS.StepE.load 47 (.string x.f0) (by kernel_rfl) (by kernel_rfl) rfl (fun f w h => h) (fun f wq p1 p2 h => ld (d := .string) Try.underlying9 rfl (pw_cell_below h X0.out) rfl (by kernel_rfl)),
                RS.StepE.pure 48 (by kernel_rfl) rfl (fun w => by kernel_rfl) (fun f w h => h),
                RS.StepE.load 49 (.bool false) (by kernel_rfl) (by kernel_rfl) rfl (fun f w h => h) (fun f wq p1 p2 h => s_eq9 (a := x.f0) (b := nm) HNM.out rfl (by kernel_rfl) (by kernel_rfl)),
                RS.StepE.pure 50 (by kernel_rfl) rfl (fun w => by kernel_rfl) (fun f w h => h), trivial⟩
            rintro f w_ hf hs
            have RW2 := Aside0.mk hs
            clear hf hs
            (try simp only [RS.sets, List.setIfInBounds_toArray, List.set_cons_zero, List.set_cons_succ])
            go_wp2_with fail
            exact ⟨⟨i + 1, by omega, by go_num, .inl ⟨rfl, fun j hj => by
              by_cases hji : j = i
              · rw [hji, HX.out]; unfold hitS; rw [HF3.out, HNM.out]; rfl
              · exact HNO.out j (by omega)⟩, below_step HB.out RW2.out⟩, by simp [intOf]; omega⟩
          · have HNM := Aside0.mk hnm
            clear hnm
            go_upto_region 8 with (fail)
            refine RS.wp_textE [(37, .slice (some ad) n c), (38, .int .i64 ((i : Nat) : Int)), (39, .pointer (some (ad.add (i * 4)))), (40, .pointer (some ⟨(ad.add (i * 4)).block, (ad.add (i * 4)).off + 3, none⟩)), (41, .bool true), (42, .bool true), (43, .slice (some ad) n c), (44, .int .i64 ((i : Nat) : Int)), (45, .pointer (some (ad.add (i * 4)))), (46, .pointer (some (ad.add (i * 4)))), (47, .string x.f0), (48, .string nm), (49, .bool true), (50, .bool true)] (fun f wq => Below wr.heap.size wr wq) (by kernel_rfl) (by kernel_rfl) (fun f hf => ?_) ?_ ?_
            · exact RW.out
            · exact ⟨RS.StepE.pure 37 (by kernel_rfl) rfl (fun w => by kernel_rfl) (fun f w h => h),
                RS.StepE.pure 38 (by kernel_rfl) rfl (fun w => by kernel_rfl) (fun f w h => h),
                RS.StepE.load 39 (.pointer (some (ad.add (i * 4)))) (by kernel_rfl) (by kernel_rfl) rfl (fun f w h => h) (fun f wq p1 p2 h => idx33 (n := n) (c := c) (i := i) hin rfl (by kernel_rfl) (by kernel_rfl)),
                RS.StepE.pure 40 (by kernel_rfl) rfl (fun w => by kernel_rfl) (fun f w h => h),
                RS.StepE.load 41 (.bool true) (by kernel_rfl) (by kernel_rfl) rfl (fun f w h => h) (fun f wq p1 p2 h => ld (d := .bool) Try.underlying4 rfl (pw_cell_below h X3.out) rfl (by kernel_rfl)),
                RS.StepE.pure 42 (by kernel_rfl) rfl (fun w => by kernel_rfl) (fun f w h => h),
                RS.StepE.pure 43 (by kernel_rfl) rfl (fun w => by kernel_rfl) (fun f w h => h),
                RS.StepE.pure 44 (by kernel_rfl) rfl (fun w => by kernel_rfl) (fun f w h => h),
                RS.StepE.load 45 (.pointer (some (ad.add (i * 4)))) (by kernel_rfl) (by kernel_rfl) rfl (fun f w h => h) (fun f wq p1 p2 h => idx33 (n := n) (c := c) (i := i) hin rfl (by kernel_rfl) (by kernel_rfl)),
                RS.StepE.pure 46 (by kernel_rfl) rfl (fun w => by kernel_rfl) (fun f w h => h),
                RS.StepE.load 47 (.string x.f0) (by kernel_rfl) (by kernel_rfl) rfl (fun f w h => h) (fun f wq p1 p2 h => ld (d := .string) Try.underlying9 rfl (pw_cell_below h X0.out) rfl (by kernel_rfl)),
                RS.StepE.pure 48 (by kernel_rfl) rfl (fun w => by kernel_rfl) (fun f w h => h),
                RS.StepE.load 49 (.bool true) (by kernel_rfl) (by kernel_rfl) rfl (fun f w h => h) (fun f wq p1 p2 h => s_eq9 (a := x.f0) (b := nm) HNM.out rfl (by kernel_rfl) (by kernel_rfl)),
                RS.StepE.pure 50 (by kernel_rfl) rfl (fun w => by kernel_rfl) (fun f w h => h), trivial⟩
            rintro f w_ hf hs
            have RW2 := Aside0.mk hs
            clear hf hs
            (try simp only [RS.sets, List.setIfInBounds_toArray, List.set_cons_zero, List.set_cons_succ])
            have HFE := Aside0.mk (find_hit (nm := nm) (by rw [HN.out]; exact hin) HNO.out (by rw [HX.out]; unfold hitS; rw [HF3.out, HNM.out]; rfl))
            rw [HX.out] at HFE
            go_upto_region 9 with (fail)
            refine RS.wp_textE [(7, .bool true)] (fun f w => w_ = w) (by kernel_rfl) (by kernel_rfl) (fun f hf => ?_) ?_ ?_
            · rfl
            · exact ⟨RS.StepE.pure 7 (by kernel_rfl) rfl (fun w => by kernel_rfl) (fun f w h => h), trivial⟩
            rintro f wx hf rfl
            clear hf
            (try simp only [RS.sets, List.setIfInBounds_toArray, List.set_cons_zero, List.set_cons_succ])
            go_upto_region 10 with (fail)
            refine RS.wp_events (by kernel_rfl) [(51, .int .i64 (findP C nm).2), (52, .bool false), (53, .bool false), (54, .agg (encS (findP C nm).1)), (55, .slice (some ad) n c), (56, .int .i64 ((i : Nat) : Int)), (57, .pointer (some (ad.add (i * 4)))), (58, .agg (encS x)), (59, .bool false), (60, .bool false)] (fun f wq => Below wr.heap.size wr wq) (by kernel_rfl) (by kernel_rfl) (fun f hf => ?_) ?_ ?_
            · exact bY_ RW2.out
            · exact ⟨RS.StepE.pure 51 (by kernel_rfl) rfl (fun w => by kernel_rfl) (fun f w h => h),
                RS.StepE.load 52 (.bool false) (by kernel_rfl) (by kernel_rfl) rfl (fun f w h => h) (fun f wq p1 p2 h => c_neq (k := .i64) (a := (findP C nm).2) (b := 0) (r := false) (by rw [HFE.out]; rfl) rfl (by kernel_rfl) (by kernel_rfl)),
                RS.StepE.pure 53 (by kernel_rfl) rfl (fun w => by kernel_rfl) (fun f w h => h),
                RS.StepE.load 54 (.agg (encS (findP C nm).1)) (by kernel_rfl) (by kernel_rfl) rfl (fun f w h => h) (fun f wq p1 p2 h => load_row (g := g5) (heap_below h (heap_below HB.out N9_.out)) hu38.out rfl (by kernel_rfl) rfl (by kernel_rfl)),
                RS.StepE.pure 55 (by kernel_rfl) rfl (fun w => by kernel_rfl) (fun f w h => h),
                RS.StepE.pure 56 (by kernel_rfl) rfl (fun w => by kernel_rfl) (fun f w h => h),
                RS.StepE.load 57 (.pointer (some (ad.add (i * 4)))) (by kernel_rfl) (by kernel_rfl) rfl (fun f w h => h) (fun f wq p1 p2 h => idx33 (n := n) (c := c) (i := i) hin rfl (by kernel_rfl) (by kernel_rfl)),
                RS.StepE.load 58 (.agg (encS x)) (by kernel_rfl) (by kernel_rfl) rfl (fun f w h => h) (fun f wq p1 p2 h => load38 HX.out (Kd.C_below HC.out (below_step B8_.out (below_step HB.out h))) HN.out hin rfl (by kernel_rfl)),
                RS.StepE.load 59 (.bool false) (by kernel_rfl) (by kernel_rfl) rfl (fun f w h => h) (fun f wq p1 p2 h => (s_neq38 (a := (findP C nm).1) (b := x) rfl (by kernel_rfl) (by kernel_rfl)).trans (by rw [HFE.out, eqS_refl]; rfl)),
                RS.StepE.pure 60 (by kernel_rfl) rfl (fun w => by kernel_rfl) (fun f w h => h), trivial⟩
            rintro f w_ hf hs
            have RW3 := Aside0.mk hs
            clear hf hs
            (try simp only [RS.sets, List.setIfInBounds_toArray, List.set_cons_zero, List.set_cons_succ])
            go_wp2_with fail
            exact ⟨⟨i + 1, by omega, by go_num, .inr ⟨rfl, by rw [HFE.out]⟩, below_step HB.out RW3.out⟩, by simp [intOf]; omega⟩
      · have HFE := Aside0.mk (find_miss (nm := nm) (C := C) (fun j hj => HNO.out j (by rw [HN.out] at hj; omega)))
        go_upto_region 6 with (fail)
        refine RS.wp_textE [(27, .int .i64 ((i : Nat) : Int)), (28, .slice A n c), (29, .int .i64 ((n : Nat) : Int)), (30, .bool false), (31, .bool false), (32, undef), (33, undef), (34, .bool false)] (fun f w => wr = w) (by kernel_rfl) (by kernel_rfl) (fun f hf => ?_) ?_ ?_
        · rfl
        · exact ⟨RS.StepE.pure 27 (by kernel_rfl) rfl (fun w => by kernel_rfl) (fun f w h => h),
            RS.StepE.pure 28 (by kernel_rfl) rfl (fun w => by kernel_rfl) (fun f w h => h),
            RS.StepE.pure 29 (by kernel_rfl) rfl (fun w => by kernel_rfl) (fun f w h => h),
            RS.StepE.load 30 (.bool false) (by kernel_rfl) (by kernel_rfl) rfl (fun f w h => h) (fun f w p1 p2 h => n_lss (a := i) (b := n) (r := false) (decide_eq_false (show ¬ (i < n) from by omega)) rfl (by kernel_rfl) (by kernel_rfl)),
            RS.StepE.pure 31 (by kernel_rfl) rfl (fun w => by kernel_rfl) (fun f w h => h),
            RS.StepE.off 32 (by kernel_rfl) rfl (by kernel_rfl) (fun f w h => h),
            RS.StepE.off 33 (by kernel_rfl) rfl (by kernel_rfl) (fun f w h => h),
            RS.StepE.pure 34 (by kernel_rfl) rfl (fun w => by kernel_rfl) (fun f w h => h), trivial⟩
        rintro f wx hf rfl
        clear hf
        (try simp only [RS.sets, List.setIfInBounds_toArray, List.set_cons_zero, List.set_cons_succ])
        clear hi hin
        have BF0 := Aside0.mk (below_step B8_.out HB.out)
        have N7 := Aside0.mk (heap_below HB.out N9_.out)
        go_upto_region 12 with (fail)
        refine RS.wp_textE [(61, .bool false), (62, .bool true), (63, .bool true), (64, .int .i64 (findP C nm).2), (65, .bool false), (66, .bool false), (67, .agg (encS (findP C nm).1)), (68, .agg (encS z38)), (69, .bool false), (70, .bool false), (71, .bool false)] (fun f wq => Below w7_.heap.size w7_ wq) (by kernel_rfl) (by kernel_rfl) (fun f hf => ?_) ?_ ?_
        · exact HB.out
        · exact ⟨RS.StepE.pure 61 (by kernel_rfl) rfl (fun w => by kernel_rfl) (fun f w h => h),
            RS.StepE.pure 62 (by kernel_rfl) rfl (fun w => by kernel_rfl) (fun f w h => h),
            RS.StepE.pure 63 (by kernel_rfl) rfl (fun w => by kernel_rfl) (fun f w h => h),
            RS.StepE.pure 64 (by kernel_rfl) rfl (fun w => by kernel_rfl) (fun f w h => h),
            RS.StepE.load 65 (.bool false) (by kernel_rfl) (by kernel_rfl) rfl (fun f w h => h) (fun f wq p1 p2 h => c_neq (k := .i64) (a := (findP C nm).2) (b := 40) (r := false) (by rw [HFE.out]; rfl) rfl (by kernel_rfl) (by kernel_rfl)),
            RS.StepE.pure 66 (by kernel_rfl) rfl (fun w => by kernel_rfl) (fun f w h => h),
            RS.StepE.load 67 (.agg (encS (findP C nm).1)) (by kernel_rfl) (by kernel_rfl) rfl (fun f w h => h) (fun f wq p1 p2 h => load_row (g := g5) (heap_below h N9_.out) hu38.out rfl (by kernel_rfl) rfl (by kernel_rfl)),
            RS.StepE.pure 68 (by kernel_rfl) rfl (fun w => by kernel_rfl) (fun f w h => h),
            RS.StepE.load 69 (.bool false) (by kernel_rfl) (by kernel_rfl) rfl (fun f w h => h) (fun f wq p1 p2 h => (s_neq38 (a := (findP C nm).1) (b := z38) rfl (by kernel_rfl) (by kernel_rfl)).trans (by rw [HFE.out, eqS_refl]; rfl)),
            RS.StepE.pure 70 (by kernel_rfl) rfl (fun w => by kernel_rfl) (fun f w h => h),
            RS.StepE.pure 71 (by kernel_rfl) rfl (fun w => by kernel_rfl) (fun f w h => h), trivial⟩
        rintro f w_ hf hs
        have HB1 := Aside0.mk hs
        clear hf hs
        (try simp only [RS.sets, List.setIfInBounds_toArray, List.set_cons_zero, List.set_cons_succ])
        have BF := Aside0.mk (below_step B8_.out HB1.out)
        go_upto_region 14 with (fail)
        refine wp_region_lit ?_
        refine RS.t1 72 rfl (by kernel_rfl) (.slice A n c) (by kernel_rfl) ?_
        (try simp only [Act.put, List.setIfInBounds_toArray, List.set_cons_zero, List.set_cons_succ])
        refine RS.tC 73 rfl (by kernel_rfl) (show _ = Result.ok (Next.enter 16 #[.slice A n c]) _ from by kernel_rfl) ?_
        refine (functions_calls A c n C _ (Kd.C_below HC.out BF.out) HN.out (by omega)).mono ?_
        rintro e wf ⟨v9, rfl, ys, hss, hr⟩
        obtain ⟨A9, c9, rfl, -, hC9, hb9⟩ := hr.form
        obtain ⟨m, hm⟩ : ∃ m, ys.length = m := ⟨_, rfl⟩
        have HM := Aside0.mk hm
        have HSS := Aside0.mk hss
        have HY := Aside0.mk hC9
        have HCF := Aside0.mk (Kd.C_below (Kd.C_below HC.out BF.out) hb9)
        have BW := Aside0.mk (below_step BF.out hb9)
        have hml : m ≤ 100 := by rw [← hm, hss.length]; exact Nat.le_trans (List.length_filter_le _ _) (by rw [HN.out]; exact h5)
        have HFL := Aside0.mk (show m = (funs C).length by rw [← hm, hss.length])
        rw [hm]
        have BB := Aside0.mk (Below.refl wf.heap.size wf)
        clear hm hss hr hC9 hb9
        refine ⟨_, rfl, ?_⟩
        (try simp only [Act.put, List.setIfInBounds_toArray, List.set_cons_zero, List.set_cons_succ])
        refine RS.t1 9 rfl (by kernel_rfl) (.slice A9 m c9) (by kernel_rfl) ?_
        (try simp only [Act.put, List.setIfInBounds_toArray, List.set_cons_zero, List.set_cons_succ])
        go_upto_region 15 with (fail)
        refine RS.wp_textE [(10, .int .i64 ((0 : Nat) : Int))] (fun f w => wf = w) (by kernel_rfl) (by kernel_rfl) (fun f hf => ?_) ?_ ?_
        · rfl
        · exact ⟨RS.StepE.pure 10 (by kernel_rfl) rfl (fun w => by kernel_rfl) (fun f w h => h), trivial⟩
        rintro f wx hf rfl
        clear hf
        (try simp only [RS.sets, List.setIfInBounds_toArray, List.set_cons_zero, List.set_cons_succ])
        go_upto_region 16 with (fail)
        refine RS.wp_textE [(11, .int .i64 ((0 : Nat) : Int))] (fun f w => wf = w) (by kernel_rfl) (by kernel_rfl) (fun f hf => ?_) ?_ ?_
        · rfl
        · exact ⟨RS.StepE.pure 11 (by kernel_rfl) rfl (fun w => by kernel_rfl) (fun f w h => h), trivial⟩
        rintro f wx hf rfl
        clear hf
        (try simp only [RS.sets, List.setIfInBounds_toArray, List.set_cons_zero, List.set_cons_succ])
        go_upto_region 17 with (fail)
        go_loopw [11] (fun t wr => ∃ i : Nat, i ≤ m ∧ t = .int .i64 (i : Int) ∧ Below wf.heap.size wf wr) (fun t _ => ((m : Int) - intOf t).toNat)
        case atStart => exact ⟨0, Nat.zero_le _, rfl, BB.out⟩
        case round =>
          obtain ⟨i, hi, rfl, hb⟩ := hrel
          have HR := Aside0.mk hb
          clear hb
          by_cases hin : i < m
          · go_upto_region 17 with (fail)
            refine RS.wp_textE [(74, .int .i64 ((i : Nat) : Int)), (75, .slice A9 m c9), (76, .int .i64 ((m : Nat) : Int)), (77, .bool true)] (fun f w => wr = w) (by kernel_rfl) (by kernel_rfl) (fun f hf => ?_) ?_ ?_
            · rfl
            · exact ⟨RS.StepE.pure 74 (by kernel_rfl) rfl (fun w => by kernel_rfl) (fun f w h => h),
                RS.StepE.pure 75 (by kernel_rfl) rfl (fun w => by kernel_rfl) (fun f w h => h),
                RS.StepE.pure 76 (by kernel_rfl) rfl (fun w => by kernel_rfl) (fun f w h => h),
                RS.StepE.load 77 (.bool true) (by kernel_rfl) (by kernel_rfl) rfl (fun f w h => h) (fun f w p1 p2 h => n_lss (a := i) (b := m) (r := true) (decide_eq_true (show i < m from by omega)) rfl (by kernel_rfl) (by kernel_rfl)), trivial⟩
            rintro f wx hf rfl
            clear hf
            (try simp only [RS.sets, List.setIfInBounds_toArray, List.set_cons_zero, List.set_cons_succ])
            obtain ⟨yd, ey, -, -, -, -, hx3⟩ := el38 HY.out HM.out i hin
            subst ey
            have hx3 : wf.cell? ⟨(yd.add (i * 4)).block, (yd.add (i * 4)).off + 3, none⟩ = some (.bool true) := by rw [hx3, ys_func HSS.out (by rw [HM.out]; exact hin)]
            have X3 := Aside0.mk hx3
            clear hx3
            by_cases h0 : 0 < i
            · obtain ⟨yd', ey', -, -, hpa, -, -⟩ := el38 HY.out HM.out (i - 1) (by omega)
              cases ey'
              obtain ⟨yd', ey', -, -, hqa, -, -⟩ := el38 HY.out HM.out i hin
              cases ey'
              have hle := srt_get HSS.out.1 (show i - 1 ≤ i by omega) (by rw [HM.out]; exact hin)
              generalize (ys.getD (i - 1) z38).f1 = pa at hpa hle
              generalize (ys.getD i z38).f1 = qa at hqa hle
              have P1 := Aside0.mk hpa
              have Q1 := Aside0.mk hqa
              have HLE := Aside0.mk hle
              clear hpa hqa hle
              go_upto_region 19 with (fail)
              refine RS.wp_events (by kernel_rfl) [(80, .slice (some yd) m c9), (81, .int .i64 ((i : Nat) : Int)), (82, .pointer (some (yd.add (i * 4)))), (83, .pointer (some ⟨(yd.add (i * 4)).block, (yd.add (i * 4)).off + 3, none⟩)), (84, .bool true), (85, .bool false), (86, .bool false), (87, .int .i64 ((i : Nat) : Int)), (88, .bool true), (89, .bool true), (90, .slice (some yd) m c9), (91, .int .i64 ((i : Nat) : Int)), (92, .int .i64 ((i - 1 : Nat) : Int)), (93, .pointer (some (yd.add ((i - 1) * 4)))), (94, .pointer (some ⟨(yd.add ((i - 1) * 4)).block, (yd.add ((i - 1) * 4)).off + 1, none⟩)), (95, .int .u64 pa), (96, .slice (some yd) m c9), (97, .int .i64 ((i : Nat) : Int)), (98, .pointer (some (yd.add (i * 4)))), (99, .pointer (some ⟨(yd.add (i * 4)).block, (yd.add (i * 4)).off + 1, none⟩)), (100, .int .u64 qa), (101, .bool false), (102, .bool false), (103, .bool false)] (fun f wq => Below wf.heap.size wf wq) (by kernel_rfl) (by kernel_rfl) (fun f hf => ?_) ?_ ?_
              · exact bY_ HR.out
              · exact ⟨RS.StepE.pure 80 (by kernel_rfl) rfl (fun w => by kernel_rfl) (fun f w h => h),
                  RS.StepE.pure 81 (by kernel_rfl) rfl (fun w => by kernel_rfl) (fun f w h => h),
                  RS.StepE.load 82 (.pointer (some (yd.add (i * 4)))) (by kernel_rfl) (by kernel_rfl) rfl (fun f w h => h) (fun f wq p1 p2 h => idx33 (n := m) (c := c9) (i := i) hin rfl (by kernel_rfl) (by kernel_rfl)),
                  RS.StepE.pure 83 (by kernel_rfl) rfl (fun w => by kernel_rfl) (fun f w h => h),
                  RS.StepE.load 84 (.bool true) (by kernel_rfl) (by kernel_rfl) rfl (fun f w h => h) (fun f wq p1 p2 h => ld (d := .bool) Try.underlying4 rfl (pw_cell_below h X3.out) rfl (by kernel_rfl)),
                  RS.StepE.pure 85 (by kernel_rfl) rfl (fun w => by kernel_rfl) (fun f w h => h),
                  RS.StepE.pure 86 (by kernel_rfl) rfl (fun w => by kernel_rfl) (fun f w h => h),
                  RS.StepE.pure 87 (by kernel_rfl) rfl (fun w => by kernel_rfl) (fun f w h => h),
                  RS.StepE.load 88 (.bool true) (by kernel_rfl) (by kernel_rfl) rfl (fun f w h => h) (fun f w p1 p2 h => n_gtr (a := i) (b := 0) (r := true) (decide_eq_true (show 0 < i from by omega)) rfl (by kernel_rfl) (by kernel_rfl)),
                  RS.StepE.pure 89 (by kernel_rfl) rfl (fun w => by kernel_rfl) (fun f w h => h),
                  RS.StepE.pure 90 (by kernel_rfl) rfl (fun w => by kernel_rfl) (fun f w h => h),
                  RS.StepE.pure 91 (by kernel_rfl) rfl (fun w => by kernel_rfl) (fun f w h => h),
                  RS.StepE.load 92 (.int .i64 ((i - 1 : Nat) : Int)) (by kernel_rfl) (by kernel_rfl) rfl (fun f w h => h) (fun f w p1 p2 h => n_sub (by omega) (by omega) rfl (by kernel_rfl) (by kernel_rfl)),
                  RS.StepE.load 93 (.pointer (some (yd.add ((i - 1) * 4)))) (by kernel_rfl) (by kernel_rfl) rfl (fun f w h => h) (fun f wq p1 p2 h => idx33 (n := m) (c := c9) (i := (i - 1)) (by omega) rfl (by kernel_rfl) (by kernel_rfl)),
                  RS.StepE.pure 94 (by kernel_rfl) rfl (fun w => by kernel_rfl) (fun f w h => h),
                  RS.StepE.load 95 (.int .u64 pa) (by kernel_rfl) (by kernel_rfl) rfl (fun f w h => h) (fun f wq p1 p2 h => ld (d := .int .u64) Try.underlying26 rfl (pw_cell_below h P1.out) rfl (by kernel_rfl)),
                  RS.StepE.pure 96 (by kernel_rfl) rfl (fun w => by kernel_rfl) (fun f w h => h),
                  RS.StepE.pure 97 (by kernel_rfl) rfl (fun w => by kernel_rfl) (fun f w h => h),
                  RS.StepE.load 98 (.pointer (some (yd.add (i * 4)))) (by kernel_rfl) (by kernel_rfl) rfl (fun f w h => h) (fun f wq p1 p2 h => idx33 (n := m) (c := c9) (i := i) hin rfl (by kernel_rfl) (by kernel_rfl)),
                  RS.StepE.pure 99 (by kernel_rfl) rfl (fun w => by kernel_rfl) (fun f w h => h),
                  RS.StepE.load 100 (.int .u64 qa) (by kernel_rfl) (by kernel_rfl) rfl (fun f w h => h) (fun f wq p1 p2 h => ld (d := .int .u64) Try.underlying26 rfl (pw_cell_below h Q1.out) rfl (by kernel_rfl)),
                  RS.StepE.load 101 (.bool false) (by kernel_rfl) (by kernel_rfl) rfl (fun f w h => h) (fun f wq p1 p2 h => c_gtr (k := .u64) (a := pa) (b := qa) (r := false) (decide_eq_false (by have := HLE.out; omega)) rfl (by kernel_rfl) (by kernel_rfl)),
                  RS.StepE.pure 102 (by kernel_rfl) rfl (fun w => by kernel_rfl) (fun f w h => h),
                  RS.StepE.pure 103 (by kernel_rfl) rfl (fun w => by kernel_rfl) (fun f w h => h), trivial⟩
              rintro f w_ hf hs
              have HR2 := Aside0.mk hs
              clear hf hs
              (try simp only [RS.sets, List.setIfInBounds_toArray, List.set_cons_zero, List.set_cons_succ])
              go_wp2_with fail
              exact ⟨⟨i + 1, by omega, by go_num, HR2.out⟩, by simp [intOf]; omega⟩
            · go_upto_region 19 with (fail)
              refine RS.wp_events (by kernel_rfl) [(80, .slice (some yd) m c9), (81, .int .i64 ((i : Nat) : Int)), (82, .pointer (some (yd.add (i * 4)))), (83, .pointer (some ⟨(yd.add (i * 4)).block, (yd.add (i * 4)).off + 3, none⟩)), (84, .bool true), (85, .bool false), (86, .bool false), (87, .int .i64 ((i : Nat) : Int)), (88, .bool false), (89, .bool false), (90, undef), (91, undef), (92, undef), (93, undef), (94, undef), (95, undef), (96, undef), (97, undef), (98, undef), (99, undef), (100, undef), (101, undef), (102, .bool false), (103, .bool false)] (fun f wq => Below wf.heap.size wf wq) (by kernel_rfl) (by kernel_rfl) (fun f hf => ?_) ?_ ?_
              · exact bY_ HR.out
              · exact ⟨RS.StepE.pure 80 (by kernel_rfl) rfl (fun w => by kernel_rfl) (fun f w h => h),
                  RS.StepE.pure 81 (by kernel_rfl) rfl (fun w => by kernel_rfl) (fun f w h => h),
                  RS.StepE.load 82 (.pointer (some (yd.add (i * 4)))) (by kernel_rfl) (by kernel_rfl) rfl (fun f w h => h) (fun f wq p1 p2 h => idx33 (n := m) (c := c9) (i := i) hin rfl (by kernel_rfl) (by kernel_rfl)),
                  RS.StepE.pure 83 (by kernel_rfl) rfl (fun w => by kernel_rfl) (fun f w h => h),
                  RS.StepE.load 84 (.bool true) (by kernel_rfl) (by kernel_rfl) rfl (fun f w h => h) (fun f wq p1 p2 h => ld (d := .bool) Try.underlying4 rfl (pw_cell_below h X3.out) rfl (by kernel_rfl)),
                  RS.StepE.pure 85 (by kernel_rfl) rfl (fun w => by kernel_rfl) (fun f w h => h),
                  RS.StepE.pure 86 (by kernel_rfl) rfl (fun w => by kernel_rfl) (fun f w h => h),
                  RS.StepE.pure 87 (by kernel_rfl) rfl (fun w => by kernel_rfl) (fun f w h => h),
                  RS.StepE.load 88 (.bool false) (by kernel_rfl) (by kernel_rfl) rfl (fun f w h => h) (fun f w p1 p2 h => n_gtr (a := i) (b := 0) (r := false) (decide_eq_false (show ¬ (0 < i) from by omega)) rfl (by kernel_rfl) (by kernel_rfl)),
                  RS.StepE.pure 89 (by kernel_rfl) rfl (fun w => by kernel_rfl) (fun f w h => h),
                  RS.StepE.off 90 (by kernel_rfl) rfl (by kernel_rfl) (fun f w h => h),
                  RS.StepE.off 91 (by kernel_rfl) rfl (by kernel_rfl) (fun f w h => h),
                  RS.StepE.off 92 (by kernel_rfl) rfl (by kernel_rfl) (fun f w h => h),
                  RS.StepE.off 93 (by kernel_rfl) rfl (by kernel_rfl) (fun f w h => h),
                  RS.StepE.off 94 (by kernel_rfl) rfl (by kernel_rfl) (fun f w h => h),
                  RS.StepE.off 95 (by kernel_rfl) rfl (by kernel_rfl) (fun f w h => h),
                  RS.StepE.off 96 (by kernel_rfl) rfl (by kernel_rfl) (fun f w h => h),
                  RS.StepE.off 97 (by kernel_rfl) rfl (by kernel_rfl) (fun f w h => h),
                  RS.StepE.off 98 (by kernel_rfl) rfl (by kernel_rfl) (fun f w h => h),
                  RS.StepE.off 99 (by kernel_rfl) rfl (by kernel_rfl) (fun f w h => h),
                  RS.StepE.off 100 (by kernel_rfl) rfl (by kernel_rfl) (fun f w h => h),
                  RS.StepE.off 101 (by kernel_rfl) rfl (by kernel_rfl) (fun f w h => h),
                  RS.StepE.pure 102 (by kernel_rfl) rfl (fun w => by kernel_rfl) (fun f w h => h),
                  RS.StepE.pure 103 (by kernel_rfl) rfl (fun w => by kernel_rfl) (fun f w h => h), trivial⟩
              rintro f w_ hf hs
              have HR2 := Aside0.mk hs
              clear hf hs
              (try simp only [RS.sets, List.setIfInBounds_toArray, List.set_cons_zero, List.set_cons_succ])
              go_wp2_with fail
              exact ⟨⟨i + 1, by omega, by go_num, HR2.out⟩, by simp [intOf]; omega⟩
          · go_upto_region 17 with (fail)
            refine RS.wp_textE [(74, .int .i64 ((i : Nat) : Int)), (75, .slice A9 m c9), (76, .int .i64 ((m : Nat) : Int)), (77, .bool false)] (fun f w => wr = w) (by kernel_rfl) (by kernel_rfl) (fun f hf => ?_) ?_ ?_
            · rfl
            · exact ⟨RS.StepE.pure 74 (by kernel_rfl) rfl (fun w => by kernel_rfl) (fun f w h => h),
                RS.StepE.pure 75 (by kernel_rfl) rfl (fun w => by kernel_rfl) (fun f w h => h),
                RS.StepE.pure 76 (by kernel_rfl) rfl (fun w => by kernel_rfl) (fun f w h => h),
                RS.StepE.load 77 (.bool false) (by kernel_rfl) (by kernel_rfl) rfl (fun f w h => h) (fun f w p1 p2 h => n_lss (a := i) (b := m) (r := false) (decide_eq_false (show ¬ (i < m) from by omega)) rfl (by kernel_rfl) (by kernel_rfl)), trivial⟩
            rintro f wx hf rfl
            clear hf
            (try simp only [RS.sets, List.setIfInBounds_toArray, List.set_cons_zero, List.set_cons_succ])
            clear hi hin
            go_upto_region 21 with (fail)
            refine RS.wp_textE [(12, .int .i64 ((0 : Nat) : Int))] (fun f w => wr = w) (by kernel_rfl) (by kernel_rfl) (fun f hf => ?_) ?_ ?_
            · rfl
            · exact ⟨RS.StepE.pure 12 (by kernel_rfl) rfl (fun w => by kernel_rfl) (fun f w h => h), trivial⟩
            rintro f wx hf rfl
            clear hf
            (try simp only [RS.sets, List.setIfInBounds_toArray, List.set_cons_zero, List.set_cons_succ])
            go_upto_region 22 with (fail)
            go_loopw [10, 12] (fun s t wr => ∃ i : Nat, i ≤ n ∧ t = .int .i64 (i : Int) ∧ s = .int .i64 (((funs (C.take i)).length : Nat) : Int) ∧ Below wf.heap.size wf wr) (fun s t _ => ((n : Int) - intOf t).toNat)
            case atStart => exact ⟨0, Nat.zero_le _, rfl, rfl, HR.out⟩
            case round =>
              obtain ⟨i, hi, rfl, rfl, hb⟩ := hrel
              have HQ := Aside0.mk hb
              clear hb
              obtain ⟨q, hq⟩ : ∃ q, (funs (C.take i)).length = q := ⟨_, rfl⟩
              have HQL := Aside0.mk hq
              have hql : q ≤ 100 := by rw [← hq]; exact Nat.le_trans (funs_le C i) (by rw [HN.out]; exact h5)
              rw [hq]
              clear hq
              by_cases hin : i < n
              · go_upto_region 22 with (fail)
                refine RS.wp_textE [(104, .int .i64 ((i : Nat) : Int)), (105, .slice A n c), (106, .int .i64 ((n : Nat) : Int)), (107, .bool true)] (fun f w => wr = w) (by kernel_rfl) (by kernel_rfl) (fun f hf => ?_) ?_ ?_
                · rfl
                · exact ⟨RS.StepE.pure 104 (by kernel_rfl) rfl (fun w => by kernel_rfl) (fun f w h => h),
                    RS.StepE.pure 105 (by kernel_rfl) rfl (fun w => by kernel_rfl) (fun f w h => h),
                    RS.StepE.pure 106 (by kernel_rfl) rfl (fun w => by kernel_rfl) (fun f w h => h),
                    RS.StepE.load 107 (.bool true) (by kernel_rfl) (by kernel_rfl) rfl (fun f w h => h) (fun f w p1 p2 h => n_lss (a := i) (b := n) (r := true) (decide_eq_true (show i < n from by omega)) rfl (by kernel_rfl) (by kernel_rfl)), trivial⟩
                rintro f wx hf rfl
                clear hf
                (try simp only [RS.sets, List.setIfInBounds_toArray, List.set_cons_zero, List.set_cons_succ])
                obtain ⟨ad, ea, -, -, -, -, hx3⟩ := el38 HCF.out HN.out i hin
                subst ea
                have HFN := Aside0.mk (funs_next (C := C) (i := i) (by rw [HN.out]; exact hin))
                obtain ⟨x, hx⟩ : ∃ x, C.getD i z38 = x := ⟨_, rfl⟩
                rw [hx] at hx3 HFN
                have HX := Aside0.mk hx
                clear hx
                cases hf3 : x.f3
                · rw [hf3] at hx3
                  have X3 := Aside0.mk hx3
                  have HF3 := Aside0.mk hf3
                  clear hx3 hf3
                  go_upto_region 24 with (fail)
                  refine RS.wp_textE [(110, .slice (some ad) n c), (111, .int .i64 ((i : Nat) : Int)), (112, .pointer (some (ad.add (i * 4)))), (113, .pointer (some ⟨(ad.add (i * 4)).block, (ad.add (i * 4)).off + 3, none⟩)), (114, .bool false), (115, .bool true)] (fun f wq => Below wf.heap.size wf wq) (by kernel_rfl) (by kernel_rfl) (fun f hf => ?_) ?_ ?_
                  · exact HQ.out
                  · exact ⟨RS.StepE.pure 110 (by kernel_rfl) rfl (fun w => by kernel_rfl) (fun f w h => h),
                      RS.StepE.pure 111 (by kernel_rfl) rfl (fun w => by kernel_rfl) (fun f w h => h),
                      RS.StepE.load 112 (.pointer (some (ad.add (i * 4)))) (by kernel_rfl) (by kernel_rfl) rfl (fun f w h => h) (fun f wq p1 p2 h => idx33 (n := n) (c := c) (i := i) hin rfl (by kernel_rfl) (by kernel_rfl)),
                      RS.StepE.pure 113 (by kernel_rfl) rfl (fun w => by kernel_rfl) (fun f w h => h),
                      RS.StepE.load 114 (.bool false) (by kernel_rfl) (by kernel_rfl) rfl (fun f w h => h) (fun f wq p1 p2 h => ld (d := .bool) Try.underlying4 rfl (pw_cell_below h X3.out) rfl (by kernel_rfl)),
                      RS.StepE.pure 115 (by kernel_rfl) rfl (fun w => by kernel_rfl) (fun f w h => h), trivial⟩
                  rintro f w_ hf hs
                  have HQ2 := Aside0.mk hs
                  clear hf hs
                  (try simp only [RS.sets, List.setIfInBounds_toArray, List.set_cons_zero, List.set_cons_succ])
                  go_wp2_with fail
                  exact ⟨⟨i + 1, by omega, by go_num, by rw [HFN.out, if_neg (by rw [HF3.out]; decide), HQL.out], HQ2.out⟩, by simp [intOf]; omega⟩
                · rw [hf3] at hx3
                  have X3 := Aside0.mk hx3
                  have HF3 := Aside0.mk hf3
                  clear hx3 hf3
                  go_upto_region 24 with (fail)
                  refine RS.wp_textE [(110, .slice (some ad) n c), (111, .int .i64 ((i : Nat) : Int)), (112, .pointer (some (ad.add (i * 4)))), (113, .pointer (some ⟨(ad.add (i * 4)).block, (ad.add (i * 4)).off + 3, none⟩)), (114, .bool true), (115, .bool false)] (fun f wq => Below wf.heap.size wf wq) (by kernel_rfl) (by kernel_rfl) (fun f hf => ?_) ?_ ?_
                  · exact HQ.out
                  · exact ⟨RS.StepE.pure 110 (by kernel_rfl) rfl (fun w => by kernel_rfl) (fun f w h => h),
                      RS.StepE.pure 111 (by kernel_rfl) rfl (fun w => by kernel_rfl) (fun f w h => h),
                      RS.StepE.load 112 (.pointer (some (ad.add (i * 4)))) (by kernel_rfl) (by kernel_rfl) rfl (fun f w h => h) (fun f wq p1 p2 h => idx33 (n := n) (c := c) (i := i) hin rfl (by kernel_rfl) (by kernel_rfl)),
                      RS.StepE.pure 113 (by kernel_rfl) rfl (fun w => by kernel_rfl) (fun f w h => h),
                      RS.StepE.load 114 (.bool true) (by kernel_rfl) (by kernel_rfl) rfl (fun f w h => h) (fun f wq p1 p2 h => ld (d := .bool) Try.underlying4 rfl (pw_cell_below h X3.out) rfl (by kernel_rfl)),
                      RS.StepE.pure 115 (by kernel_rfl) rfl (fun w => by kernel_rfl) (fun f w h => h), trivial⟩
                  rintro f w_ hf hs
                  have HQ2 := Aside0.mk hs
                  clear hf hs
                  (try simp only [RS.sets, List.setIfInBounds_toArray, List.set_cons_zero, List.set_cons_succ])
                  go_upto_region 25 with (fail)
                  refine wp_region_lit ?_
                  refine RS.t1 116 rfl (by kernel_rfl) (.int .i64 ((q : Nat) : Int)) (by kernel_rfl) ?_
                  (try simp only [Act.put, List.setIfInBounds_toArray, List.set_cons_zero, List.set_cons_succ])
                  refine RS.t1 117 rfl (by kernel_rfl) (.int .i64 ((q + 1 : Nat) : Int)) (n_add (by omega) rfl (by kernel_rfl) (by kernel_rfl)) ?_
                  (try simp only [Act.put, List.setIfInBounds_toArray, List.set_cons_zero, List.set_cons_succ])
                  refine RS.t1 10 rfl (by kernel_rfl) (.int .i64 ((q + 1 : Nat) : Int)) (by kernel_rfl) ?_
                  (try simp only [Act.put, List.setIfInBounds_toArray, List.set_cons_zero, List.set_cons_succ])
                  go_upto_region 26 with (fail)
                  refine RS.wp_textE [(13, .int .i64 ((0 : Nat) : Int)), (14, .int .i64 ((0 : Nat) : Int))] (fun f w => w_ = w) (by kernel_rfl) (by kernel_rfl) (fun f hf => ?_) ?_ ?_
                  · rfl
                  · exact ⟨RS.StepE.pure 13 (by kernel_rfl) rfl (fun w => by kernel_rfl) (fun f w h => h),
                      RS.StepE.pure 14 (by kernel_rfl) rfl (fun w => by kernel_rfl) (fun f w h => h), trivial⟩
                  rintro f wx hf rfl
                  clear hf
                  (try simp only [RS.sets, List.setIfInBounds_toArray, List.set_cons_zero, List.set_cons_succ])
                  go_upto_region 27 with (fail)
                  refine RS.wp_textE [(15, .int .i64 ((0 : Nat) : Int))] (fun f w => w_ = w) (by kernel_rfl) (by kernel_rfl) (fun f hf => ?_) ?_ ?_
                  · rfl
                  · exact ⟨RS.StepE.pure 15 (by kernel_rfl) rfl (fun w => by kernel_rfl) (fun f w h => h), trivial⟩
                  rintro f wx hf rfl
                  clear hf
                  (try simp only [RS.sets, List.setIfInBounds_toArray, List.set_cons_zero, List.set_cons_succ])
                  go_upto_region 28 with (fail)
                  go_loopw [13, 15] (fun s t wr => ∃ k : Nat, k ≤ n ∧ t = .int .i64 (k : Int) ∧ s = .int .i64 (((C.take k).countP (fun y => eqS y x) : Nat) : Int) ∧ Below wf.heap.size wf wr) (fun s t _ => ((n : Int) - intOf t).toNat)
                  case atStart => exact ⟨0, Nat.zero_le _, rfl, rfl, HQ2.out⟩
                  case round =>
                    obtain ⟨k, hk, rfl, rfl, hb⟩ := hrel
                    have HK := Aside0.mk hb
                    clear hb
                    obtain ⟨e, he⟩ : ∃ e, (C.take k).countP (fun y => eqS y x) = e := ⟨_, rfl⟩
                    have HE := Aside0.mk he
                    have hel : e ≤ 100 := by rw [← he]; exact Nat.le_trans (countP_le C _ k) (by rw [HN.out]; omega)
                    rw [he]
                    clear he
                    by_cases hkn : k < n
                    · go_upto_region 28 with (fail)
                      refine RS.wp_textE [(118, .int .i64 ((k : Nat) : Int)), (119, .slice (some ad) n c), (120, .int .i64 ((n : Nat) : Int)), (121, .bool true)] (fun f w => wr = w) (by kernel_rfl) (by kernel_rfl) (fun f hf => ?_) ?_ ?_
                      · rfl
                      · exact ⟨RS.StepE.pure 118 (by kernel_rfl) rfl (fun w => by kernel_rfl) (fun f w h => h),
                          RS.StepE.pure 119 (by kernel_rfl) rfl (fun w => by kernel_rfl) (fun f w h => h),
                          RS.StepE.pure 120 (by kernel_rfl) rfl (fun w => by kernel_rfl) (fun f w h => h),
                          RS.StepE.load 121 (.bool true) (by kernel_rfl) (by kernel_rfl) rfl (fun f w h => h) (fun f w p1 p2 h => n_lss (a := k) (b := n) (r := true) (decide_eq_true (show k < n from by omega)) rfl (by kernel_rfl) (by kernel_rfl)), trivial⟩
                      rintro f wx hf rfl
                      clear hf
                      (try simp only [RS.sets, List.setIfInBounds_toArray, List.set_cons_zero, List.set_cons_succ])
                      obtain ⟨y, hy⟩ : ∃ y, C.getD k z38 = y := ⟨_, rfl⟩
                      have HYE := Aside0.mk hy
                      have HNX := Aside0.mk (countP_next (C := C) (p := fun y => eqS y x) (i := k) (by rw [HN.out]; exact hkn))
                      rw [hy, HE.out] at HNX
                      clear hy
                      cases heq : eqS y x
                      · have HQE := Aside0.mk heq
                        clear heq
                        go_upto_region 30 with (fail)
                        refine RS.wp_events (by kernel_rfl) [(124, .slice (some ad) n c), (125, .int .i64 ((k : Nat) : Int)), (126, .pointer (some (ad.add (k * 4)))), (127, .agg (encS y)), (128, .slice (some ad) n c), (129, .int .i64 ((i : Nat) : Int)), (130, .pointer (some (ad.add (i * 4)))), (131, .agg (encS x)), (132, .bool false)] (fun f wq => Below wf.heap.size wf wq) (by kernel_rfl) (by kernel_rfl) (fun f hf => ?_) ?_ ?_
                        · exact bY_ HK.out
                        · exact ⟨RS.StepE.pure 124 (by kernel_rfl) rfl (fun w => by kernel_rfl) (fun f w h => h),
                            RS.StepE.pure 125 (by kernel_rfl) rfl (fun w => by kernel_rfl) (fun f w h => h),
                            RS.StepE.load 126 (.pointer (some (ad.add (k * 4)))) (by kernel_rfl) (by kernel_rfl) rfl (fun f w h => h) (fun f wq p1 p2 h => idx33 (n := n) (c := c) (i := k) hkn rfl (by kernel_rfl) (by kernel_rfl)),
                            RS.StepE.load 127 (.agg (encS y)) (by kernel_rfl) (by kernel_rfl) rfl (fun f w h => h) (fun f wq p1 p2 h => load38 HYE.out (Kd.C_below HCF.out h) HN.out hkn rfl (by kernel_rfl)),
                            RS.StepE.pure 128 (by kernel_rfl) rfl (fun w => by kernel_rfl) (fun f w h => h),
                            RS.StepE.pure 129 (by kernel_rfl) rfl (fun w => by kernel_rfl) (fun f w h => h),
                            RS.StepE.load 130 (.pointer (some (ad.add (i * 4)))) (by kernel_rfl) (by kernel_rfl) rfl (fun f w h => h) (fun f wq p1 p2 h => idx33 (n := n) (c := c) (i := i) hin rfl (by kernel_rfl) (by kernel_rfl)),
                            RS.StepE.load 131 (.agg (encS x)) (by kernel_rfl) (by kernel_rfl) rfl (fun f w h => h) (fun f wq p1 p2 h => load38 HX.out (Kd.C_below HCF.out h) HN.out hin rfl (by kernel_rfl)),
                            RS.StepE.load 132 (.bool false) (by kernel_rfl) (by kernel_rfl) rfl (fun f w h => h) (fun f wq p1 p2 h => (s_eql38 (a := y) (b := x) rfl (by kernel_rfl) (by kernel_rfl)).trans (by rw [HQE.out])), trivial⟩
                        rintro f w_ hf hs
                        have HKb := Aside0.mk hs
                        clear hf hs
                        (try simp only [RS.sets, List.setIfInBounds_toArray, List.set_cons_zero, List.set_cons_succ])
                        go_wp2_with fail
                        exact ⟨⟨k + 1, by omega, by go_num, by rw [HNX.out]; simp [HQE.out], HKb.out⟩, by simp [intOf]; omega⟩
                      · have HQE := Aside0.mk heq
                        clear heq
                        go_upto_region 30 with (fail)
                        refine RS.wp_events (by kernel_rfl) [(124, .slice (some ad) n c), (125, .int .i64 ((k : Nat) : Int)), (126, .pointer (some (ad.add (k * 4)))), (127, .agg (encS y)), (128, .slice (some ad) n c), (129, .int .i64 ((i : Nat) : Int)), (130, .pointer (some (ad.add (i * 4)))), (131, .agg (encS x)), (132, .bool true)] (fun f wq => Below wf.heap.size wf wq) (by kernel_rfl) (by kernel_rfl) (fun f hf => ?_) ?_ ?_
                        · exact bY_ HK.out
                        · exact ⟨RS.StepE.pure 124 (by kernel_rfl) rfl (fun w => by kernel_rfl) (fun f w h => h),
                            RS.StepE.pure 125 (by kernel_rfl) rfl (fun w => by kernel_rfl) (fun f w h => h),
                            RS.StepE.load 126 (.pointer (some (ad.add (k * 4)))) (by kernel_rfl) (by kernel_rfl) rfl (fun f w h => h) (fun f wq p1 p2 h => idx33 (n := n) (c := c) (i := k) hkn rfl (by kernel_rfl) (by kernel_rfl)),
                            RS.StepE.load 127 (.agg (encS y)) (by kernel_rfl) (by kernel_rfl) rfl (fun f w h => h) (fun f wq p1 p2 h => load38 HYE.out (Kd.C_below HCF.out h) HN.out hkn rfl (by kernel_rfl)),
                            RS.StepE.pure 128 (by kernel_rfl) rfl (fun w => by kernel_rfl) (fun f w h => h),
                            RS.StepE.pure 129 (by kernel_rfl) rfl (fun w => by kernel_rfl) (fun f w h => h),
                            RS.StepE.load 130 (.pointer (some (ad.add (i * 4)))) (by kernel_rfl) (by kernel_rfl) rfl (fun f w h => h) (fun f wq p1 p2 h => idx33 (n := n) (c := c) (i := i) hin rfl (by kernel_rfl) (by kernel_rfl)),
                            RS.StepE.load 131 (.agg (encS x)) (by kernel_rfl) (by kernel_rfl) rfl (fun f w h => h) (fun f wq p1 p2 h => load38 HX.out (Kd.C_below HCF.out h) HN.out hin rfl (by kernel_rfl)),
                            RS.StepE.load 132 (.bool true) (by kernel_rfl) (by kernel_rfl) rfl (fun f w h => h) (fun f wq p1 p2 h => (s_eql38 (a := y) (b := x) rfl (by kernel_rfl) (by kernel_rfl)).trans (by rw [HQE.out])), trivial⟩
                        rintro f w_ hf hs
                        have HKb := Aside0.mk hs
                        clear hf hs
                        (try simp only [RS.sets, List.setIfInBounds_toArray, List.set_cons_zero, List.set_cons_succ])
                        go_upto_region 31 with (fail)
                        refine wp_region_lit ?_
                        refine RS.t1 133 rfl (by kernel_rfl) (.int .i64 ((e : Nat) : Int)) (by kernel_rfl) ?_
                        (try simp only [Act.put, List.setIfInBounds_toArray, List.set_cons_zero, List.set_cons_succ])
                        refine RS.t1 134 rfl (by kernel_rfl) (.int .i64 ((e + 1 : Nat) : Int)) (n_add (by omega) rfl (by kernel_rfl) (by kernel_rfl)) ?_
                        (try simp only [Act.put, List.setIfInBounds_toArray, List.set_cons_zero, List.set_cons_succ])
                        refine RS.t1 13 rfl (by kernel_rfl) (.int .i64 ((e + 1 : Nat) : Int)) (by kernel_rfl) ?_
                        (try simp only [Act.put, List.setIfInBounds_toArray, List.set_cons_zero, List.set_cons_succ])
                        go_wp2_with fail
                        exact ⟨⟨k + 1, by omega, by go_num, by rw [HNX.out]; simp [HQE.out], HKb.out⟩, by simp [intOf]; omega⟩
                    · go_upto_region 28 with (fail)
                      refine RS.wp_textE [(118, .int .i64 ((k : Nat) : Int)), (119, .slice (some ad) n c), (120, .int .i64 ((n : Nat) : Int)), (121, .bool false)] (fun f w => wr = w) (by kernel_rfl) (by kernel_rfl) (fun f hf => ?_) ?_ ?_
                      · rfl
                      · exact ⟨RS.StepE.pure 118 (by kernel_rfl) rfl (fun w => by kernel_rfl) (fun f w h => h),
                          RS.StepE.pure 119 (by kernel_rfl) rfl (fun w => by kernel_rfl) (fun f w h => h),
                          RS.StepE.pure 120 (by kernel_rfl) rfl (fun w => by kernel_rfl) (fun f w h => h),
                          RS.StepE.load 121 (.bool false) (by kernel_rfl) (by kernel_rfl) rfl (fun f w h => h) (fun f w p1 p2 h => n_lss (a := k) (b := n) (r := false) (decide_eq_false (show ¬ (k < n) from by omega)) rfl (by kernel_rfl) (by kernel_rfl)), trivial⟩
                      rintro f wx hf rfl
                      clear hf
                      (try simp only [RS.sets, List.setIfInBounds_toArray, List.set_cons_zero, List.set_cons_succ])
                      have H13 := Aside0.mk (show C.countP (fun y => eqS y x) = e by have := HE.out; rwa [List.take_of_length_le (by rw [HN.out]; omega)] at this)
                      clear HE hk hkn
                      obtain ⟨e13, he13⟩ : ∃ z, z = e := ⟨_, rfl⟩
                      subst he13
                      go_upto_region 32 with (fail)
                      refine RS.wp_textE [(16, .int .i64 ((0 : Nat) : Int))] (fun f w => wr = w) (by kernel_rfl) (by kernel_rfl) (fun f hf => ?_) ?_ ?_
                      · rfl
                      · exact ⟨RS.StepE.pure 16 (by kernel_rfl) rfl (fun w => by kernel_rfl) (fun f w h => h), trivial⟩
                      rintro f wx hf rfl
                      clear hf
                      (try simp only [RS.sets, List.setIfInBounds_toArray, List.set_cons_zero, List.set_cons_succ])
                      go_upto_region 33 with (fail)
                      go_loopw [14, 16] (fun s t wr => ∃ k : Nat, k ≤ m ∧ t = .int .i64 (k : Int) ∧ s = .int .i64 (((ys.take k).countP (fun y => eqS y x) : Nat) : Int) ∧ Below wf.heap.size wf wr) (fun s t _ => ((m : Int) - intOf t).toNat)
                      case atStart => exact ⟨0, Nat.zero_le _, rfl, rfl, HK.out⟩
                      case round =>
                        obtain ⟨k, hk, rfl, rfl, hb⟩ := hrel
                        have HK3 := Aside0.mk hb
                        clear hb
                        obtain ⟨e, he⟩ : ∃ e, (ys.take k).countP (fun y => eqS y x) = e := ⟨_, rfl⟩
                        have HE := Aside0.mk he
                        have hel : e ≤ 100 := by rw [← he]; exact Nat.le_trans (countP_le ys _ k) (by rw [HM.out]; omega)
                        rw [he]
                        clear he
                        by_cases hkn : k < m
                        · go_upto_region 33 with (fail)
                          refine RS.wp_textE [(135, .int .i64 ((k : Nat) : Int)), (136, .slice A9 m c9), (137, .int .i64 ((m : Nat) : Int)), (138, .bool true)] (fun f w => wr = w) (by kernel_rfl) (by kernel_rfl) (fun f hf => ?_) ?_ ?_
                          · rfl
                          · exact ⟨RS.StepE.pure 135 (by kernel_rfl) rfl (fun w => by kernel_rfl) (fun f w h => h),
                              RS.StepE.pure 136 (by kernel_rfl) rfl (fun w => by kernel_rfl) (fun f w h => h),
                              RS.StepE.pure 137 (by kernel_rfl) rfl (fun w => by kernel_rfl) (fun f w h => h),
                              RS.StepE.load 138 (.bool true) (by kernel_rfl) (by kernel_rfl) rfl (fun f w h => h) (fun f w p1 p2 h => n_lss (a := k) (b := m) (r := true) (decide_eq_true (show k < m from by omega)) rfl (by kernel_rfl) (by kernel_rfl)), trivial⟩
                          rintro f wx hf rfl
                          clear hf
                          (try simp only [RS.sets, List.setIfInBounds_toArray, List.set_cons_zero, List.set_cons_succ])
                          obtain ⟨yd, ey, -⟩ := el38 HY.out HM.out k hkn
                          subst ey
                          obtain ⟨y, hy⟩ : ∃ y, ys.getD k z38 = y := ⟨_, rfl⟩
                          have HYE := Aside0.mk hy
                          have HNX := Aside0.mk (countP_next (C := ys) (p := fun y => eqS y x) (i := k) (by rw [HM.out]; exact hkn))
                          rw [hy, HE.out] at HNX
                          clear hy
                          cases heq : eqS y x
                          · have HQE := Aside0.mk heq
                            clear heq
                            go_upto_region 35 with (fail)
                            refine RS.wp_events (by kernel_rfl) [(141, .slice (some yd) m c9), (142, .int .i64 ((k : Nat) : Int)), (143, .pointer (some (yd.add (k * 4)))), (144, .agg (encS y)), (145, .slice (some ad) n c), (146, .int .i64 ((i : Nat) : Int)), (147, .pointer (some (ad.add (i * 4)))), (148, .agg (encS x)), (149, .bool false)] (fun f wq => Below wf.heap.size wf wq) (by kernel_rfl) (by kernel_rfl) (fun f hf => ?_) ?_ ?_
                            · exact bY_ HK3.out
                            · exact ⟨RS.StepE.pure 141 (by kernel_rfl) rfl (fun w => by kernel_rfl) (fun f w h => h),
                                RS.StepE.pure 142 (by kernel_rfl) rfl (fun w => by kernel_rfl) (fun f w h => h),
                                RS.StepE.load 143 (.pointer (some (yd.add (k * 4)))) (by kernel_rfl) (by kernel_rfl) rfl (fun f w h => h) (fun f wq p1 p2 h => idx33 (n := m) (c := c9) (i := k) hkn rfl (by kernel_rfl) (by kernel_rfl)),
                                RS.StepE.load 144 (.agg (encS y)) (by kernel_rfl) (by kernel_rfl) rfl (fun f w h => h) (fun f wq p1 p2 h => load38 HYE.out (Kd.C_below HY.out h) HM.out hkn rfl (by kernel_rfl)),
                                RS.StepE.pure 145 (by kernel_rfl) rfl (fun w => by kernel_rfl) (fun f w h => h),
                                RS.StepE.pure 146 (by kernel_rfl) rfl (fun w => by kernel_rfl) (fun f w h => h),
                                RS.StepE.load 147 (.pointer (some (ad.add (i * 4)))) (by kernel_rfl) (by kernel_rfl) rfl (fun f w h => h) (fun f wq p1 p2 h => idx33 (n := n) (c := c) (i := i) hin rfl (by kernel_rfl) (by kernel_rfl)),
                                RS.StepE.load 148 (.agg (encS x)) (by kernel_rfl) (by kernel_rfl) rfl (fun f w h => h) (fun f wq p1 p2 h => load38 HX.out (Kd.C_below HCF.out h) HN.out hin rfl (by kernel_rfl)),
                                RS.StepE.load 149 (.bool false) (by kernel_rfl) (by kernel_rfl) rfl (fun f w h => h) (fun f wq p1 p2 h => (s_eql38 (a := y) (b := x) rfl (by kernel_rfl) (by kernel_rfl)).trans (by rw [HQE.out])), trivial⟩
                            rintro f w_ hf hs
                            have HK3b := Aside0.mk hs
                            clear hf hs
                            (try simp only [RS.sets, List.setIfInBounds_toArray, List.set_cons_zero, List.set_cons_succ])
                            go_wp2_with fail
                            exact ⟨⟨k + 1, by omega, by go_num, by rw [HNX.out]; simp [HQE.out], HK3b.out⟩, by simp [intOf]; omega⟩
                          · have HQE := Aside0.mk heq
                            clear heq
                            go_upto_region 35 with (fail)
                            refine RS.wp_events (by kernel_rfl) [(141, .slice (some yd) m c9), (142, .int .i64 ((k : Nat) : Int)), (143, .pointer (some (yd.add (k * 4)))), (144, .agg (encS y)), (145, .slice (some ad) n c), (146, .int .i64 ((i : Nat) : Int)), (147, .pointer (some (ad.add (i * 4)))), (148, .agg (encS x)), (149, .bool true)] (fun f wq => Below wf.heap.size wf wq) (by kernel_rfl) (by kernel_rfl) (fun f hf => ?_) ?_ ?_
                            · exact bY_ HK3.out
                            · exact ⟨RS.StepE.pure 141 (by kernel_rfl) rfl (fun w => by kernel_rfl) (fun f w h => h),
                                RS.StepE.pure 142 (by kernel_rfl) rfl (fun w => by kernel_rfl) (fun f w h => h),
                                RS.StepE.load 143 (.pointer (some (yd.add (k * 4)))) (by kernel_rfl) (by kernel_rfl) rfl (fun f w h => h) (fun f wq p1 p2 h => idx33 (n := m) (c := c9) (i := k) hkn rfl (by kernel_rfl) (by kernel_rfl)),
                                RS.StepE.load 144 (.agg (encS y)) (by kernel_rfl) (by kernel_rfl) rfl (fun f w h => h) (fun f wq p1 p2 h => load38 HYE.out (Kd.C_below HY.out h) HM.out hkn rfl (by kernel_rfl)),
                                RS.StepE.pure 145 (by kernel_rfl) rfl (fun w => by kernel_rfl) (fun f w h => h),
                                RS.StepE.pure 146 (by kernel_rfl) rfl (fun w => by kernel_rfl) (fun f w h => h),
                                RS.StepE.load 147 (.pointer (some (ad.add (i * 4)))) (by kernel_rfl) (by kernel_rfl) rfl (fun f w h => h) (fun f wq p1 p2 h => idx33 (n := n) (c := c) (i := i) hin rfl (by kernel_rfl) (by kernel_rfl)),
                                RS.StepE.load 148 (.agg (encS x)) (by kernel_rfl) (by kernel_rfl) rfl (fun f w h => h) (fun f wq p1 p2 h => load38 HX.out (Kd.C_below HCF.out h) HN.out hin rfl (by kernel_rfl)),
                                RS.StepE.load 149 (.bool true) (by kernel_rfl) (by kernel_rfl) rfl (fun f w h => h) (fun f wq p1 p2 h => (s_eql38 (a := y) (b := x) rfl (by kernel_rfl) (by kernel_rfl)).trans (by rw [HQE.out])), trivial⟩
                            rintro f w_ hf hs
                            have HK3b := Aside0.mk hs
                            clear hf hs
                            (try simp only [RS.sets, List.setIfInBounds_toArray, List.set_cons_zero, List.set_cons_succ])
                            go_upto_region 36 with (fail)
                            refine wp_region_lit ?_
                            refine RS.t1 150 rfl (by kernel_rfl) (.int .i64 ((e : Nat) : Int)) (by kernel_rfl) ?_
                            (try simp only [Act.put, List.setIfInBounds_toArray, List.set_cons_zero, List.set_cons_succ])
                            refine RS.t1 151 rfl (by kernel_rfl) (.int .i64 ((e + 1 : Nat) : Int)) (n_add (by omega) rfl (by kernel_rfl) (by kernel_rfl)) ?_
                            (try simp only [Act.put, List.setIfInBounds_toArray, List.set_cons_zero, List.set_cons_succ])
                            refine RS.t1 14 rfl (by kernel_rfl) (.int .i64 ((e + 1 : Nat) : Int)) (by kernel_rfl) ?_
                            (try simp only [Act.put, List.setIfInBounds_toArray, List.set_cons_zero, List.set_cons_succ])
                            go_wp2_with fail
                            exact ⟨⟨k + 1, by omega, by go_num, by rw [HNX.out]; simp [HQE.out], HK3b.out⟩, by simp [intOf]; omega⟩
                        · go_upto_region 33 with (fail)
                          refine RS.wp_textE [(135, .int .i64 ((k : Nat) : Int)), (136, .slice A9 m c9), (137, .int .i64 ((m : Nat) : Int)), (138, .bool false)] (fun f w => wr = w) (by kernel_rfl) (by kernel_rfl) (fun f hf => ?_) ?_ ?_
                          · rfl
                          · exact ⟨RS.StepE.pure 135 (by kernel_rfl) rfl (fun w => by kernel_rfl) (fun f w h => h),
                              RS.StepE.pure 136 (by kernel_rfl) rfl (fun w => by kernel_rfl) (fun f w h => h),
                              RS.StepE.pure 137 (by kernel_rfl) rfl (fun w => by kernel_rfl) (fun f w h => h),
                              RS.StepE.load 138 (.bool false) (by kernel_rfl) (by kernel_rfl) rfl (fun f w h => h) (fun f w p1 p2 h => n_lss (a := k) (b := m) (r := false) (decide_eq_false (show ¬ (k < m) from by omega)) rfl (by kernel_rfl) (by kernel_rfl)), trivial⟩
                          rintro f wx hf rfl
                          clear hf
                          (try simp only [RS.sets, List.setIfInBounds_toArray, List.set_cons_zero, List.set_cons_succ])
                          have H14 := Aside0.mk (show ys.countP (fun y => eqS y x) = e by have := HE.out; rwa [List.take_of_length_le (by rw [HM.out]; omega)] at this)
                          clear HE hk hkn
                          have hee : e13 = e := by rw [← H13.out, ← H14.out]; exact (count_funs HSS.out HF3.out).symm
                          subst hee
                          go_upto_region 37 with (fail)
                          refine RS.wp_textE [(152, .int .i64 ((e13 : Nat) : Int)), (153, .int .i64 ((e13 : Nat) : Int)), (154, .bool false)] (fun f w => wr = w) (by kernel_rfl) (by kernel_rfl) (fun f hf => ?_) ?_ ?_
                          · rfl
                          · exact ⟨RS.StepE.pure 152 (by kernel_rfl) rfl (fun w => by kernel_rfl) (fun f w h => h),
                              RS.StepE.pure 153 (by kernel_rfl) rfl (fun w => by kernel_rfl) (fun f w h => h),
                              RS.StepE.load 154 (.bool false) (by kernel_rfl) (by kernel_rfl) rfl (fun f w h => h) (fun f w p1 p2 h => n_neq (a := e13) (b := e13) (r := false) (decide_eq_true (show e13 = e13 from by omega)) rfl (by kernel_rfl) (by kernel_rfl)), trivial⟩
                          rintro f wx hf rfl
                          clear hf
                          (try simp only [RS.sets, List.setIfInBounds_toArray, List.set_cons_zero, List.set_cons_succ])
                          go_wp2_with fail
                          exact ⟨⟨i + 1, by omega, by go_num, by rw [HFN.out, if_pos HF3.out, List.length_append, HQL.out]; rfl, HK3.out⟩, by simp [intOf]; omega⟩
              · go_upto_region 22 with (fail)
                refine RS.wp_textE [(104, .int .i64 ((i : Nat) : Int)), (105, .slice A n c), (106, .int .i64 ((n : Nat) : Int)), (107, .bool false)] (fun f w => wr = w) (by kernel_rfl) (by kernel_rfl) (fun f hf => ?_) ?_ ?_
                · rfl
                · exact ⟨RS.StepE.pure 104 (by kernel_rfl) rfl (fun w => by kernel_rfl) (fun f w h => h),
                    RS.StepE.pure 105 (by kernel_rfl) rfl (fun w => by kernel_rfl) (fun f w h => h),
                    RS.StepE.pure 106 (by kernel_rfl) rfl (fun w => by kernel_rfl) (fun f w h => h),
                    RS.StepE.load 107 (.bool false) (by kernel_rfl) (by kernel_rfl) rfl (fun f w h => h) (fun f w p1 p2 h => n_lss (a := i) (b := n) (r := false) (decide_eq_false (show ¬ (i < n) from by omega)) rfl (by kernel_rfl) (by kernel_rfl)), trivial⟩
                rintro f wx hf rfl
                clear hf
                (try simp only [RS.sets, List.setIfInBounds_toArray, List.set_cons_zero, List.set_cons_succ])
                have hqm : q = m := by rw [← HQL.out, List.take_of_length_le (by rw [HN.out]; omega)]; exact HFL.out.symm
                subst hqm
                go_upto_region 39 with (fail)
                refine wp_region_lit ?_
                refine RS.t1 155 rfl (by kernel_rfl) (.slice A9 q c9) (by kernel_rfl) ?_
                (try simp only [Act.put, List.setIfInBounds_toArray, List.set_cons_zero, List.set_cons_succ])
                refine RS.t1 156 rfl (by kernel_rfl) (.int .i64 ((q : Nat) : Int)) (by kernel_rfl) ?_
                (try simp only [Act.put, List.setIfInBounds_toArray, List.set_cons_zero, List.set_cons_succ])
                refine RS.t1 157 rfl (by kernel_rfl) (.int .i64 ((q : Nat) : Int)) (by kernel_rfl) ?_
                (try simp only [Act.put, List.setIfInBounds_toArray, List.set_cons_zero, List.set_cons_succ])
                refine RS.t1 158 rfl (by kernel_rfl) (.bool true) (n_eql (a := q) (b := q) (r := true) (decide_eq_true (show q = q from by omega)) rfl (by kernel_rfl) (by kernel_rfl)) ?_
                (try simp only [Act.put, List.setIfInBounds_toArray, List.set_cons_zero, List.set_cons_succ])
                refine RS.t1 159 rfl (by kernel_rfl) (.bool true) (by kernel_rfl) ?_
                (try simp only [Act.put, List.setIfInBounds_toArray, List.set_cons_zero, List.set_cons_succ])
                refine RS.t1 160 rfl (by kernel_rfl) (.slice A n c) (by kernel_rfl) ?_
                (try simp only [Act.put, List.setIfInBounds_toArray, List.set_cons_zero, List.set_cons_succ])
                refine RS.t1 161 rfl (by kernel_rfl) (.slice A n c) (by kernel_rfl) ?_
                (try simp only [Act.put, List.setIfInBounds_toArray, List.set_cons_zero, List.set_cons_succ])
                refine RS.tC 162 rfl (by kernel_rfl) (show _ = Result.ok (Next.enter 13 #[.slice A n c, .slice A n c]) _ from by kernel_rfl) ?_
                refine (same_self A c n C _ (Kd.C_below HCF.out HQ.out) HN.out (by omega)).mono ?_
                rintro e w10_ ⟨rfl, hb_⟩
                have B11_ := Aside0.mk (below_step HQ.out hb_)
                clear hb_ HQ
                refine ⟨_, rfl, ?_⟩
                (try simp only [Act.put, List.setIfInBounds_toArray, List.set_cons_zero, List.set_cons_succ])
                refine RS.t1 163 rfl (by kernel_rfl) (.bool true) (by kernel_rfl) ?_
                (try simp only [Act.put, List.setIfInBounds_toArray, List.set_cons_zero, List.set_cons_succ])
                refine RS.t1 164 rfl (by kernel_rfl) (.bool true) (by kernel_rfl) ?_
                (try simp only [Act.put, List.setIfInBounds_toArray, List.set_cons_zero, List.set_cons_succ])
                refine RS.tC 165 rfl (by kernel_rfl) (show _ = Result.ok (Next.enter 8 #[]) _ from by kernel_rfl) ?_
                refine (wakes_calls _).mono ?_
                rintro e w12_ ⟨rfl, hb_⟩
                have B13_ := Aside0.mk (below_step B11_.out hb_)
                clear hb_ B11_
                refine ⟨_, rfl, ?_⟩
                (try simp only [Act.put, List.setIfInBounds_toArray, List.set_cons_zero, List.set_cons_succ])
                refine RS.t1 166 rfl (by kernel_rfl) (.bool true) (by kernel_rfl) ?_
                (try simp only [Act.put, List.setIfInBounds_toArray, List.set_cons_zero, List.set_cons_succ])
                refine RS.t1 4 rfl (by kernel_rfl) (.bool true) (by kernel_rfl) ?_
                (try simp only [Act.put, List.setIfInBounds_toArray, List.set_cons_zero, List.set_cons_succ])
                go_wp2_with fail
                go_ret
                exact ⟨rfl, below_step BW.out B13_.out⟩
    · have HZ := Aside0.mk hz
      clear hz
      by_cases hin : i < n
      · go_upto_region 6 with (fail)
        refine RS.wp_textE [(27, .int .i64 ((i : Nat) : Int)), (28, .slice A n c), (29, .int .i64 ((n : Nat) : Int)), (30, .bool true), (31, .bool true), (32, .bool true), (33, .bool false), (34, .bool false)] (fun f w => wr = w) (by kernel_rfl) (by kernel_rfl) (fun f hf => ?_) ?_ ?_
        · rfl
        · exact ⟨RS.StepE.pure 27 (by kernel_rfl) rfl (fun w => by kernel_rfl) (fun f w h => h),
            RS.StepE.pure 28 (by kernel_rfl) rfl (fun w => by kernel_rfl) (fun f w h => h),
            RS.StepE.pure 29 (by kernel_rfl) rfl (fun w => by kernel_rfl) (fun f w h => h),
            RS.StepE.load 30 (.bool true) (by kernel_rfl) (by kernel_rfl) rfl (fun f w h => h) (fun f w p1 p2 h => n_lss (a := i) (b := n) (r := true) (decide_eq_true (show i < n from by omega)) rfl (by kernel_rfl) (by kernel_rfl)),
            RS.StepE.pure 31 (by kernel_rfl) rfl (fun w => by kernel_rfl) (fun f w h => h),
            RS.StepE.pure 32 (by kernel_rfl) rfl (fun w => by kernel_rfl) (fun f w h => h),
            RS.StepE.pure 33 (by kernel_rfl) rfl (fun w => by kernel_rfl) (fun f w h => h),
            RS.StepE.pure 34 (by kernel_rfl) rfl (fun w => by kernel_rfl) (fun f w h => h), trivial⟩
        rintro f wx hf rfl
        clear hf
        (try simp only [RS.sets, List.setIfInBounds_toArray, List.set_cons_zero, List.set_cons_succ])
        clear hi hin
        have BF0 := Aside0.mk (below_step B8_.out HB.out)
        have N7 := Aside0.mk (heap_below HB.out N9_.out)
        go_upto_region 12 with (fail)
        refine RS.wp_textE [(61, .bool true), (62, .bool false), (63, .bool false), (64, undef), (65, undef), (66, undef), (67, undef), (68, undef), (69, undef), (70, undef), (71, .bool false)] (fun f wq => Below w7_.heap.size w7_ wq) (by kernel_rfl) (by kernel_rfl) (fun f hf => ?_) ?_ ?_
        · exact HB.out
        · exact ⟨RS.StepE.pure 61 (by kernel_rfl) rfl (fun w => by kernel_rfl) (fun f w h => h),
            RS.StepE.pure 62 (by kernel_rfl) rfl (fun w => by kernel_rfl) (fun f w h => h),
            RS.StepE.pure 63 (by kernel_rfl) rfl (fun w => by kernel_rfl) (fun f w h => h),
            RS.StepE.off 64 (by kernel_rfl) rfl (by kernel_rfl) (fun f w h => h),
            RS.StepE.off 65 (by kernel_rfl) rfl (by kernel_rfl) (fun f w h => h),
            RS.StepE.off 66 (by kernel_rfl) rfl (by kernel_rfl) (fun f w h => h),
            RS.StepE.off 67 (by kernel_rfl) rfl (by kernel_rfl) (fun f w h => h),
            RS.StepE.off 68 (by kernel_rfl) rfl (by kernel_rfl) (fun f w h => h),
            RS.StepE.off 69 (by kernel_rfl) rfl (by kernel_rfl) (fun f w h => h),
            RS.StepE.off 70 (by kernel_rfl) rfl (by kernel_rfl) (fun f w h => h),
            RS.StepE.pure 71 (by kernel_rfl) rfl (fun w => by kernel_rfl) (fun f w h => h), trivial⟩
        rintro f w_ hf hs
        have HB1 := Aside0.mk hs
        clear hf hs
        (try simp only [RS.sets, List.setIfInBounds_toArray, List.set_cons_zero, List.set_cons_succ])
        have BF := Aside0.mk (below_step B8_.out HB1.out)
        go_upto_region 14 with (fail)
        refine wp_region_lit ?_
        refine RS.t1 72 rfl (by kernel_rfl) (.slice A n c) (by kernel_rfl) ?_
        (try simp only [Act.put, List.setIfInBounds_toArray, List.set_cons_zero, List.set_cons_succ])
        refine RS.tC 73 rfl (by kernel_rfl) (show _ = Result.ok (Next.enter 16 #[.slice A n c]) _ from by kernel_rfl) ?_
        refine (functions_calls A c n C _ (Kd.C_below HC.out BF.out) HN.out (by omega)).mono ?_
        rintro e wf ⟨v9, rfl, ys, hss, hr⟩
        obtain ⟨A9, c9, rfl, -, hC9, hb9⟩ := hr.form
        obtain ⟨m, hm⟩ : ∃ m, ys.length = m := ⟨_, rfl⟩
        have HM := Aside0.mk hm
        have HSS := Aside0.mk hss
        have HY := Aside0.mk hC9
        have HCF := Aside0.mk (Kd.C_below (Kd.C_below HC.out BF.out) hb9)
        have BW := Aside0.mk (below_step BF.out hb9)
        have hml : m ≤ 100 := by rw [← hm, hss.length]; exact Nat.le_trans (List.length_filter_le _ _) (by rw [HN.out]; exact h5)
        have HFL := Aside0.mk (show m = (funs C).length by rw [← hm, hss.length])
        rw [hm]
        have BB := Aside0.mk (Below.refl wf.heap.size wf)
        clear hm hss hr hC9 hb9
        refine ⟨_, rfl, ?_⟩
        (try simp only [Act.put, List.setIfInBounds_toArray, List.set_cons_zero, List.set_cons_succ])
        refine RS.t1 9 rfl (by kernel_rfl) (.slice A9 m c9) (by kernel_rfl) ?_
        (try simp only [Act.put, List.setIfInBounds_toArray, List.set_cons_zero, List.set_cons_succ])
        go_upto_region 15 with (fail)
        refine RS.wp_textE [(10, .int .i64 ((0 : Nat) : Int))] (fun f w => wf = w) (by kernel_rfl) (by kernel_rfl) (fun f hf => ?_) ?_ ?_
        · rfl
        · exact ⟨RS.StepE.pure 10 (by kernel_rfl) rfl (fun w => by kernel_rfl) (fun f w h => h), trivial⟩
        rintro f wx hf rfl
        clear hf
        (try simp only [RS.sets, List.setIfInBounds_toArray, List.set_cons_zero, List.set_cons_succ])
        go_upto_region 16 with (fail)
        refine RS.wp_textE [(11, .int .i64 ((0 : Nat) : Int))] (fun f w => wf = w) (by kernel_rfl) (by kernel_rfl) (fun f hf => ?_) ?_ ?_
        · rfl
        · exact ⟨RS.StepE.pure 11 (by kernel_rfl) rfl (fun w => by kernel_rfl) (fun f w h => h), trivial⟩
        rintro f wx hf rfl
        clear hf
        (try simp only [RS.sets, List.setIfInBounds_toArray, List.set_cons_zero, List.set_cons_succ])
        go_upto_region 17 with (fail)
        go_loopw [11] (fun t wr => ∃ i : Nat, i ≤ m ∧ t = .int .i64 (i : Int) ∧ Below wf.heap.size wf wr) (fun t _ => ((m : Int) - intOf t).toNat)
        case atStart => exact ⟨0, Nat.zero_le _, rfl, BB.out⟩
        case round =>
          obtain ⟨i, hi, rfl, hb⟩ := hrel
          have HR := Aside0.mk hb
          clear hb
          by_cases hin : i < m
          · go_upto_region 17 with (fail)
            refine RS.wp_textE [(74, .int .i64 ((i : Nat) : Int)), (75, .slice A9 m c9), (76, .int .i64 ((m : Nat) : Int)), (77, .bool true)] (fun f w => wr = w) (by kernel_rfl) (by kernel_rfl) (fun f hf => ?_) ?_ ?_
            · rfl
            · exact ⟨RS.StepE.pure 74 (by kernel_rfl) rfl (fun w => by kernel_rfl) (fun f w h => h),
                RS.StepE.pure 75 (by kernel_rfl) rfl (fun w => by kernel_rfl) (fun f w h => h),
                RS.StepE.pure 76 (by kernel_rfl) rfl (fun w => by kernel_rfl) (fun f w h => h),
                RS.StepE.load 77 (.bool true) (by kernel_rfl) (by kernel_rfl) rfl (fun f w h => h) (fun f w p1 p2 h => n_lss (a := i) (b := m) (r := true) (decide_eq_true (show i < m from by omega)) rfl (by kernel_rfl) (by kernel_rfl)), trivial⟩
            rintro f wx hf rfl
            clear hf
            (try simp only [RS.sets, List.setIfInBounds_toArray, List.set_cons_zero, List.set_cons_succ])
            obtain ⟨yd, ey, -, -, -, -, hx3⟩ := el38 HY.out HM.out i hin
            subst ey
            have hx3 : wf.cell? ⟨(yd.add (i * 4)).block, (yd.add (i * 4)).off + 3, none⟩ = some (.bool true) := by rw [hx3, ys_func HSS.out (by rw [HM.out]; exact hin)]
            have X3 := Aside0.mk hx3
            clear hx3
            by_cases h0 : 0 < i
            · obtain ⟨yd', ey', -, -, hpa, -, -⟩ := el38 HY.out HM.out (i - 1) (by omega)
              cases ey'
              obtain ⟨yd', ey', -, -, hqa, -, -⟩ := el38 HY.out HM.out i hin
              cases ey'
              have hle := srt_get HSS.out.1 (show i - 1 ≤ i by omega) (by rw [HM.out]; exact hin)
              generalize (ys.getD (i - 1) z38).f1 = pa at hpa hle
              generalize (ys.getD i z38).f1 = qa at hqa hle
              have P1 := Aside0.mk hpa
              have Q1 := Aside0.mk hqa
              have HLE := Aside0.mk hle
              clear hpa hqa hle
              go_upto_region 19 with (fail)
              refine RS.wp_events (by kernel_rfl) [(80, .slice (some yd) m c9), (81, .int .i64 ((i : Nat) : Int)), (82, .pointer (some (yd.add (i * 4)))), (83, .pointer (some ⟨(yd.add (i * 4)).block, (yd.add (i * 4)).off + 3, none⟩)), (84, .bool true), (85, .bool false), (86, .bool false), (87, .int .i64 ((i : Nat) : Int)), (88, .bool true), (89, .bool true), (90, .slice (some yd) m c9), (91, .int .i64 ((i : Nat) : Int)), (92, .int .i64 ((i - 1 : Nat) : Int)), (93, .pointer (some (yd.add ((i - 1) * 4)))), (94, .pointer (some ⟨(yd.add ((i - 1) * 4)).block, (yd.add ((i - 1) * 4)).off + 1, none⟩)), (95, .int .u64 pa), (96, .slice (some yd) m c9), (97, .int .i64 ((i : Nat) : Int)), (98, .pointer (some (yd.add (i * 4)))), (99, .pointer (some ⟨(yd.add (i * 4)).block, (yd.add (i * 4)).off + 1, none⟩)), (100, .int .u64 qa), (101, .bool false), (102, .bool false), (103, .bool false)] (fun f wq => Below wf.heap.size wf wq) (by kernel_rfl) (by kernel_rfl) (fun f hf => ?_) ?_ ?_
              · exact bY_ HR.out
              · exact ⟨RS.StepE.pure 80 (by kernel_rfl) rfl (fun w => by kernel_rfl) (fun f w h => h),
                  RS.StepE.pure 81 (by kernel_rfl) rfl (fun w => by kernel_rfl) (fun f w h => h),
                  RS.StepE.load 82 (.pointer (some (yd.add (i * 4)))) (by kernel_rfl) (by kernel_rfl) rfl (fun f w h => h) (fun f wq p1 p2 h => idx33 (n := m) (c := c9) (i := i) hin rfl (by kernel_rfl) (by kernel_rfl)),
                  RS.StepE.pure 83 (by kernel_rfl) rfl (fun w => by kernel_rfl) (fun f w h => h),
                  RS.StepE.load 84 (.bool true) (by kernel_rfl) (by kernel_rfl) rfl (fun f w h => h) (fun f wq p1 p2 h => ld (d := .bool) Try.underlying4 rfl (pw_cell_below h X3.out) rfl (by kernel_rfl)),
                  RS.StepE.pure 85 (by kernel_rfl) rfl (fun w => by kernel_rfl) (fun f w h => h),
                  RS.StepE.pure 86 (by kernel_rfl) rfl (fun w => by kernel_rfl) (fun f w h => h),
                  RS.StepE.pure 87 (by kernel_rfl) rfl (fun w => by kernel_rfl) (fun f w h => h),
                  RS.StepE.load 88 (.bool true) (by kernel_rfl) (by kernel_rfl) rfl (fun f w h => h) (fun f w p1 p2 h => n_gtr (a := i) (b := 0) (r := true) (decide_eq_true (show 0 < i from by omega)) rfl (by kernel_rfl) (by kernel_rfl)),
                  RS.StepE.pure 89 (by kernel_rfl) rfl (fun w => by kernel_rfl) (fun f w h => h),
                  RS.StepE.pure 90 (by kernel_rfl) rfl (fun w => by kernel_rfl) (fun f w h => h),
                  RS.StepE.pure 91 (by kernel_rfl) rfl (fun w => by kernel_rfl) (fun f w h => h),
                  RS.StepE.load 92 (.int .i64 ((i - 1 : Nat) : Int)) (by kernel_rfl) (by kernel_rfl) rfl (fun f w h => h) (fun f w p1 p2 h => n_sub (by omega) (by omega) rfl (by kernel_rfl) (by kernel_rfl)),
                  RS.StepE.load 93 (.pointer (some (yd.add ((i - 1) * 4)))) (by kernel_rfl) (by kernel_rfl) rfl (fun f w h => h) (fun f wq p1 p2 h => idx33 (n := m) (c := c9) (i := (i - 1)) (by omega) rfl (by kernel_rfl) (by kernel_rfl)),
                  RS.StepE.pure 94 (by kernel_rfl) rfl (fun w => by kernel_rfl) (fun f w h => h),
                  RS.StepE.load 95 (.int .u64 pa) (by kernel_rfl) (by kernel_rfl) rfl (fun f w h => h) (fun f wq p1 p2 h => ld (d := .int .u64) Try.underlying26 rfl (pw_cell_below h P1.out) rfl (by kernel_rfl)),
                  RS.StepE.pure 96 (by kernel_rfl) rfl (fun w => by kernel_rfl) (fun f w h => h),
                  RS.StepE.pure 97 (by kernel_rfl) rfl (fun w => by kernel_rfl) (fun f w h => h),
                  RS.StepE.load 98 (.pointer (some (yd.add (i * 4)))) (by kernel_rfl) (by kernel_rfl) rfl (fun f w h => h) (fun f wq p1 p2 h => idx33 (n := m) (c := c9) (i := i) hin rfl (by kernel_rfl) (by kernel_rfl)),
                  RS.StepE.pure 99 (by kernel_rfl) rfl (fun w => by kernel_rfl) (fun f w h => h),
                  RS.StepE.load 100 (.int .u64 qa) (by kernel_rfl) (by kernel_rfl) rfl (fun f w h => h) (fun f wq p1 p2 h => ld (d := .int .u64) Try.underlying26 rfl (pw_cell_below h Q1.out) rfl (by kernel_rfl)),
                  RS.StepE.load 101 (.bool false) (by kernel_rfl) (by kernel_rfl) rfl (fun f w h => h) (fun f wq p1 p2 h => c_gtr (k := .u64) (a := pa) (b := qa) (r := false) (decide_eq_false (by have := HLE.out; omega)) rfl (by kernel_rfl) (by kernel_rfl)),
                  RS.StepE.pure 102 (by kernel_rfl) rfl (fun w => by kernel_rfl) (fun f w h => h),
                  RS.StepE.pure 103 (by kernel_rfl) rfl (fun w => by kernel_rfl) (fun f w h => h), trivial⟩
              rintro f w_ hf hs
              have HR2 := Aside0.mk hs
              clear hf hs
              (try simp only [RS.sets, List.setIfInBounds_toArray, List.set_cons_zero, List.set_cons_succ])
              go_wp2_with fail
              exact ⟨⟨i + 1, by omega, by go_num, HR2.out⟩, by simp [intOf]; omega⟩
            · go_upto_region 19 with (fail)
              refine RS.wp_events (by kernel_rfl) [(80, .slice (some yd) m c9), (81, .int .i64 ((i : Nat) : Int)), (82, .pointer (some (yd.add (i * 4)))), (83, .pointer (some ⟨(yd.add (i * 4)).block, (yd.add (i * 4)).off + 3, none⟩)), (84, .bool true), (85, .bool false), (86, .bool false), (87, .int .i64 ((i : Nat) : Int)), (88, .bool false), (89, .bool false), (90, undef), (91, undef), (92, undef), (93, undef), (94, undef), (95, undef), (96, undef), (97, undef), (98, undef), (99, undef), (100, undef), (101, undef), (102, .bool false), (103, .bool false)] (fun f wq => Below wf.heap.size wf wq) (by kernel_rfl) (by kernel_rfl) (fun f hf => ?_) ?_ ?_
              · exact bY_ HR.out
              · exact ⟨RS.StepE.pure 80 (by kernel_rfl) rfl (fun w => by kernel_rfl) (fun f w h => h),
                  RS.StepE.pure 81 (by kernel_rfl) rfl (fun w => by kernel_rfl) (fun f w h => h),
                  RS.StepE.load 82 (.pointer (some (yd.add (i * 4)))) (by kernel_rfl) (by kernel_rfl) rfl (fun f w h => h) (fun f wq p1 p2 h => idx33 (n := m) (c := c9) (i := i) hin rfl (by kernel_rfl) (by kernel_rfl)),
                  RS.StepE.pure 83 (by kernel_rfl) rfl (fun w => by kernel_rfl) (fun f w h => h),
                  RS.StepE.load 84 (.bool true) (by kernel_rfl) (by kernel_rfl) rfl (fun f w h => h) (fun f wq p1 p2 h => ld (d := .bool) Try.underlying4 rfl (pw_cell_below h X3.out) rfl (by kernel_rfl)),
                  RS.StepE.pure 85 (by kernel_rfl) rfl (fun w => by kernel_rfl) (fun f w h => h),
                  RS.StepE.pure 86 (by kernel_rfl) rfl (fun w => by kernel_rfl) (fun f w h => h),
                  RS.StepE.pure 87 (by kernel_rfl) rfl (fun w => by kernel_rfl) (fun f w h => h),
                  RS.StepE.load 88 (.bool false) (by kernel_rfl) (by kernel_rfl) rfl (fun f w h => h) (fun f w p1 p2 h => n_gtr (a := i) (b := 0) (r := false) (decide_eq_false (show ¬ (0 < i) from by omega)) rfl (by kernel_rfl) (by kernel_rfl)),
                  RS.StepE.pure 89 (by kernel_rfl) rfl (fun w => by kernel_rfl) (fun f w h => h),
                  RS.StepE.off 90 (by kernel_rfl) rfl (by kernel_rfl) (fun f w h => h),
                  RS.StepE.off 91 (by kernel_rfl) rfl (by kernel_rfl) (fun f w h => h),
                  RS.StepE.off 92 (by kernel_rfl) rfl (by kernel_rfl) (fun f w h => h),
                  RS.StepE.off 93 (by kernel_rfl) rfl (by kernel_rfl) (fun f w h => h),
                  RS.StepE.off 94 (by kernel_rfl) rfl (by kernel_rfl) (fun f w h => h),
                  RS.StepE.off 95 (by kernel_rfl) rfl (by kernel_rfl) (fun f w h => h),
                  RS.StepE.off 96 (by kernel_rfl) rfl (by kernel_rfl) (fun f w h => h),
                  RS.StepE.off 97 (by kernel_rfl) rfl (by kernel_rfl) (fun f w h => h),
                  RS.StepE.off 98 (by kernel_rfl) rfl (by kernel_rfl) (fun f w h => h),
                  RS.StepE.off 99 (by kernel_rfl) rfl (by kernel_rfl) (fun f w h => h),
                  RS.StepE.off 100 (by kernel_rfl) rfl (by kernel_rfl) (fun f w h => h),
                  RS.StepE.off 101 (by kernel_rfl) rfl (by kernel_rfl) (fun f w h => h),
                  RS.StepE.pure 102 (by kernel_rfl) rfl (fun w => by kernel_rfl) (fun f w h => h),
                  RS.StepE.pure 103 (by kernel_rfl) rfl (fun w => by kernel_rfl) (fun f w h => h), trivial⟩
              rintro f w_ hf hs
              have HR2 := Aside0.mk hs
              clear hf hs
              (try simp only [RS.sets, List.setIfInBounds_toArray, List.set_cons_zero, List.set_cons_succ])
              go_wp2_with fail
              exact ⟨⟨i + 1, by omega, by go_num, HR2.out⟩, by simp [intOf]; omega⟩
          · go_upto_region 17 with (fail)
            refine RS.wp_textE [(74, .int .i64 ((i : Nat) : Int)), (75, .slice A9 m c9), (76, .int .i64 ((m : Nat) : Int)), (77, .bool false)] (fun f w => wr = w) (by kernel_rfl) (by kernel_rfl) (fun f hf => ?_) ?_ ?_
            · rfl
            · exact ⟨RS.StepE.pure 74 (by kernel_rfl) rfl (fun w => by kernel_rfl) (fun f w h => h),
                RS.StepE.pure 75 (by kernel_rfl) rfl (fun w => by kernel_rfl) (fun f w h => h),
                RS.StepE.pure 76 (by kernel_rfl) rfl (fun w => by kernel_rfl) (fun f w h => h),
                RS.StepE.load 77 (.bool false) (by kernel_rfl) (by kernel_rfl) rfl (fun f w h => h) (fun f w p1 p2 h => n_lss (a := i) (b := m) (r := false) (decide_eq_false (show ¬ (i < m) from by omega)) rfl (by kernel_rfl) (by kernel_rfl)), trivial⟩
            rintro f wx hf rfl
            clear hf
            (try simp only [RS.sets, List.setIfInBounds_toArray, List.set_cons_zero, List.set_cons_succ])
            clear hi hin
            go_upto_region 21 with (fail)
            refine RS.wp_textE [(12, .int .i64 ((0 : Nat) : Int))] (fun f w => wr = w) (by kernel_rfl) (by kernel_rfl) (fun f hf => ?_) ?_ ?_
            · rfl
            · exact ⟨RS.StepE.pure 12 (by kernel_rfl) rfl (fun w => by kernel_rfl) (fun f w h => h), trivial⟩
            rintro f wx hf rfl
            clear hf
            (try simp only [RS.sets, List.setIfInBounds_toArray, List.set_cons_zero, List.set_cons_succ])
            go_upto_region 22 with (fail)
            go_loopw [10, 12] (fun s t wr => ∃ i : Nat, i ≤ n ∧ t = .int .i64 (i : Int) ∧ s = .int .i64 (((funs (C.take i)).length : Nat) : Int) ∧ Below wf.heap.size wf wr) (fun s t _ => ((n : Int) - intOf t).toNat)
            case atStart => exact ⟨0, Nat.zero_le _, rfl, rfl, HR.out⟩
            case round =>
              obtain ⟨i, hi, rfl, rfl, hb⟩ := hrel
              have HQ := Aside0.mk hb
              clear hb
              obtain ⟨q, hq⟩ : ∃ q, (funs (C.take i)).length = q := ⟨_, rfl⟩
              have HQL := Aside0.mk hq
              have hql : q ≤ 100 := by rw [← hq]; exact Nat.le_trans (funs_le C i) (by rw [HN.out]; exact h5)
              rw [hq]
              clear hq
              by_cases hin : i < n
              · go_upto_region 22 with (fail)
                refine RS.wp_textE [(104, .int .i64 ((i : Nat) : Int)), (105, .slice A n c), (106, .int .i64 ((n : Nat) : Int)), (107, .bool true)] (fun f w => wr = w) (by kernel_rfl) (by kernel_rfl) (fun f hf => ?_) ?_ ?_
                · rfl
                · exact ⟨RS.StepE.pure 104 (by kernel_rfl) rfl (fun w => by kernel_rfl) (fun f w h => h),
                    RS.StepE.pure 105 (by kernel_rfl) rfl (fun w => by kernel_rfl) (fun f w h => h),
                    RS.StepE.pure 106 (by kernel_rfl) rfl (fun w => by kernel_rfl) (fun f w h => h),
                    RS.StepE.load 107 (.bool true) (by kernel_rfl) (by kernel_rfl) rfl (fun f w h => h) (fun f w p1 p2 h => n_lss (a := i) (b := n) (r := true) (decide_eq_true (show i < n from by omega)) rfl (by kernel_rfl) (by kernel_rfl)), trivial⟩
                rintro f wx hf rfl
                clear hf
                (try simp only [RS.sets, List.setIfInBounds_toArray, List.set_cons_zero, List.set_cons_succ])
                obtain ⟨ad, ea, -, -, -, -, hx3⟩ := el38 HCF.out HN.out i hin
                subst ea
                have HFN := Aside0.mk (funs_next (C := C) (i := i) (by rw [HN.out]; exact hin))
                obtain ⟨x, hx⟩ : ∃ x, C.getD i z38 = x := ⟨_, rfl⟩
                rw [hx] at hx3 HFN
                have HX := Aside0.mk hx
                clear hx
                cases hf3 : x.f3
                · rw [hf3] at hx3
                  have X3 := Aside0.mk hx3
                  have HF3 := Aside0.mk hf3
                  clear hx3 hf3
                  go_upto_region 24 with (fail)
                  refine RS.wp_textE [(110, .slice (some ad) n c), (111, .int .i64 ((i : Nat) : Int)), (112, .pointer (some (ad.add (i * 4)))), (113, .pointer (some ⟨(ad.add (i * 4)).block, (ad.add (i * 4)).off + 3, none⟩)), (114, .bool false), (115, .bool true)] (fun f wq => Below wf.heap.size wf wq) (by kernel_rfl) (by kernel_rfl) (fun f hf => ?_) ?_ ?_
                  · exact HQ.out
                  · exact ⟨RS.StepE.pure 110 (by kernel_rfl) rfl (fun w => by kernel_rfl) (fun f w h => h),
                      RS.StepE.pure 111 (by kernel_rfl) rfl (fun w => by kernel_rfl) (fun f w h => h),
                      RS.StepE.load 112 (.pointer (some (ad.add (i * 4)))) (by kernel_rfl) (by kernel_rfl) rfl (fun f w h => h) (fun f wq p1 p2 h => idx33 (n := n) (c := c) (i := i) hin rfl (by kernel_rfl) (by kernel_rfl)),
                      RS.StepE.pure 113 (by kernel_rfl) rfl (fun w => by kernel_rfl) (fun f w h => h),
                      RS.StepE.load 114 (.bool false) (by kernel_rfl) (by kernel_rfl) rfl (fun f w h => h) (fun f wq p1 p2 h => ld (d := .bool) Try.underlying4 rfl (pw_cell_below h X3.out) rfl (by kernel_rfl)),
                      RS.StepE.pure 115 (by kernel_rfl) rfl (fun w => by kernel_rfl) (fun f w h => h), trivial⟩
                  rintro f w_ hf hs
                  have HQ2 := Aside0.mk hs
                  clear hf hs
                  (try simp only [RS.sets, List.setIfInBounds_toArray, List.set_cons_zero, List.set_cons_succ])
                  go_wp2_with fail
                  exact ⟨⟨i + 1, by omega, by go_num, by rw [HFN.out, if_neg (by rw [HF3.out]; decide), HQL.out], HQ2.out⟩, by simp [intOf]; omega⟩
                · rw [hf3] at hx3
                  have X3 := Aside0.mk hx3
                  have HF3 := Aside0.mk hf3
                  clear hx3 hf3
                  go_upto_region 24 with (fail)
                  refine RS.wp_textE [(110, .slice (some ad) n c), (111, .int .i64 ((i : Nat) : Int)), (112, .pointer (some (ad.add (i * 4)))), (113, .pointer (some ⟨(ad.add (i * 4)).block, (ad.add (i * 4)).off + 3, none⟩)), (114, .bool true), (115, .bool false)] (fun f wq => Below wf.heap.size wf wq) (by kernel_rfl) (by kernel_rfl) (fun f hf => ?_) ?_ ?_
                  · exact HQ.out
                  · exact ⟨RS.StepE.pure 110 (by kernel_rfl) rfl (fun w => by kernel_rfl) (fun f w h => h),
                      RS.StepE.pure 111 (by kernel_rfl) rfl (fun w => by kernel_rfl) (fun f w h => h),
                      RS.StepE.load 112 (.pointer (some (ad.add (i * 4)))) (by kernel_rfl) (by kernel_rfl) rfl (fun f w h => h) (fun f wq p1 p2 h => idx33 (n := n) (c := c) (i := i) hin rfl (by kernel_rfl) (by kernel_rfl)),
                      RS.StepE.pure 113 (by kernel_rfl) rfl (fun w => by kernel_rfl) (fun f w h => h),
                      RS.StepE.load 114 (.bool true) (by kernel_rfl) (by kernel_rfl) rfl (fun f w h => h) (fun f wq p1 p2 h => ld (d := .bool) Try.underlying4 rfl (pw_cell_below h X3.out) rfl (by kernel_rfl)),
                      RS.StepE.pure 115 (by kernel_rfl) rfl (fun w => by kernel_rfl) (fun f w h => h), trivial⟩
                  rintro f w_ hf hs
                  have HQ2 := Aside0.mk hs
                  clear hf hs
                  (try simp only [RS.sets, List.setIfInBounds_toArray, List.set_cons_zero, List.set_cons_succ])
                  go_upto_region 25 with (fail)
                  refine wp_region_lit ?_
                  refine RS.t1 116 rfl (by kernel_rfl) (.int .i64 ((q : Nat) : Int)) (by kernel_rfl) ?_
                  (try simp only [Act.put, List.setIfInBounds_toArray, List.set_cons_zero, List.set_cons_succ])
                  refine RS.t1 117 rfl (by kernel_rfl) (.int .i64 ((q + 1 : Nat) : Int)) (n_add (by omega) rfl (by kernel_rfl) (by kernel_rfl)) ?_
                  (try simp only [Act.put, List.setIfInBounds_toArray, List.set_cons_zero, List.set_cons_succ])
                  refine RS.t1 10 rfl (by kernel_rfl) (.int .i64 ((q + 1 : Nat) : Int)) (by kernel_rfl) ?_
                  (try simp only [Act.put, List.setIfInBounds_toArray, List.set_cons_zero, List.set_cons_succ])
                  go_upto_region 26 with (fail)
                  refine RS.wp_textE [(13, .int .i64 ((0 : Nat) : Int)), (14, .int .i64 ((0 : Nat) : Int))] (fun f w => w_ = w) (by kernel_rfl) (by kernel_rfl) (fun f hf => ?_) ?_ ?_
                  · rfl
                  · exact ⟨RS.StepE.pure 13 (by kernel_rfl) rfl (fun w => by kernel_rfl) (fun f w h => h),
                      RS.StepE.pure 14 (by kernel_rfl) rfl (fun w => by kernel_rfl) (fun f w h => h), trivial⟩
                  rintro f wx hf rfl
                  clear hf
                  (try simp only [RS.sets, List.setIfInBounds_toArray, List.set_cons_zero, List.set_cons_succ])
                  go_upto_region 27 with (fail)
                  refine RS.wp_textE [(15, .int .i64 ((0 : Nat) : Int))] (fun f w => w_ = w) (by kernel_rfl) (by kernel_rfl) (fun f hf => ?_) ?_ ?_
                  · rfl
                  · exact ⟨RS.StepE.pure 15 (by kernel_rfl) rfl (fun w => by kernel_rfl) (fun f w h => h), trivial⟩
                  rintro f wx hf rfl
                  clear hf
                  (try simp only [RS.sets, List.setIfInBounds_toArray, List.set_cons_zero, List.set_cons_succ])
                  go_upto_region 28 with (fail)
                  go_loopw [13, 15] (fun s t wr => ∃ k : Nat, k ≤ n ∧ t = .int .i64 (k : Int) ∧ s = .int .i64 (((C.take k).countP (fun y => eqS y x) : Nat) : Int) ∧ Below wf.heap.size wf wr) (fun s t _ => ((n : Int) - intOf t).toNat)
                  case atStart => exact ⟨0, Nat.zero_le _, rfl, rfl, HQ2.out⟩
                  case round =>
                    obtain ⟨k, hk, rfl, rfl, hb⟩ := hrel
                    have HK := Aside0.mk hb
                    clear hb
                    obtain ⟨e, he⟩ : ∃ e, (C.take k).countP (fun y => eqS y x) = e := ⟨_, rfl⟩
                    have HE := Aside0.mk he
                    have hel : e ≤ 100 := by rw [← he]; exact Nat.le_trans (countP_le C _ k) (by rw [HN.out]; omega)
                    rw [he]
                    clear he
                    by_cases hkn : k < n
                    · go_upto_region 28 with (fail)
                      refine RS.wp_textE [(118, .int .i64 ((k : Nat) : Int)), (119, .slice (some ad) n c), (120, .int .i64 ((n : Nat) : Int)), (121, .bool true)] (fun f w => wr = w) (by kernel_rfl) (by kernel_rfl) (fun f hf => ?_) ?_ ?_
                      · rfl
                      · exact ⟨RS.StepE.pure 118 (by kernel_rfl) rfl (fun w => by kernel_rfl) (fun f w h => h),
                          RS.StepE.pure 119 (by kernel_rfl) rfl (fun w => by kernel_rfl) (fun f w h => h),
                          RS.StepE.pure 120 (by kernel_rfl) rfl (fun w => by kernel_rfl) (fun f w h => h),
                          RS.StepE.load 121 (.bool true) (by kernel_rfl) (by kernel_rfl) rfl (fun f w h => h) (fun f w p1 p2 h => n_lss (a := k) (b := n) (r := true) (decide_eq_true (show k < n from by omega)) rfl (by kernel_rfl) (by kernel_rfl)), trivial⟩
                      rintro f wx hf rfl
                      clear hf
                      (try simp only [RS.sets, List.setIfInBounds_toArray, List.set_cons_zero, List.set_cons_succ])
                      obtain ⟨y, hy⟩ : ∃ y, C.getD k z38 = y := ⟨_, rfl⟩
                      have HYE := Aside0.mk hy
                      have HNX := Aside0.mk (countP_next (C := C) (p := fun y => eqS y x) (i := k) (by rw [HN.out]; exact hkn))
                      rw [hy, HE.out] at HNX
                      clear hy
                      cases heq : eqS y x
                      · have HQE := Aside0.mk heq
                        clear heq
                        go_upto_region 30 with (fail)
                        refine RS.wp_events (by kernel_rfl) [(124, .slice (some ad) n c), (125, .int .i64 ((k : Nat) : Int)), (126, .pointer (some (ad.add (k * 4)))), (127, .agg (encS y)), (128, .slice (some ad) n c), (129, .int .i64 ((i : Nat) : Int)), (130, .pointer (some (ad.add (i * 4)))), (131, .agg (encS x)), (132, .bool false)] (fun f wq => Below wf.heap.size wf wq) (by kernel_rfl) (by kernel_rfl) (fun f hf => ?_) ?_ ?_
                        · exact bY_ HK.out
                        · exact ⟨RS.StepE.pure 124 (by kernel_rfl) rfl (fun w => by kernel_rfl) (fun f w h => h),
                            RS.StepE.pure 125 (by kernel_rfl) rfl (fun w => by kernel_rfl) (fun f w h => h),
                            RS.StepE.load 126 (.pointer (some (ad.add (k * 4)))) (by kernel_rfl) (by kernel_rfl) rfl (fun f w h => h) (fun f wq p1 p2 h => idx33 (n := n) (c := c) (i := k) hkn rfl (by kernel_rfl) (by kernel_rfl)),
                            RS.StepE.load 127 (.agg (encS y)) (by kernel_rfl) (by kernel_rfl) rfl (fun f w h => h) (fun f wq p1 p2 h => load38 HYE.out (Kd.C_below HCF.out h) HN.out hkn rfl (by kernel_rfl)),
                            RS.StepE.pure 128 (by kernel_rfl) rfl (fun w => by kernel_rfl) (fun f w h => h),
                            RS.StepE.pure 129 (by kernel_rfl) rfl (fun w => by kernel_rfl) (fun f w h => h),
                            RS.StepE.load 130 (.pointer (some (ad.add (i * 4)))) (by kernel_rfl) (by kernel_rfl) rfl (fun f w h => h) (fun f wq p1 p2 h => idx33 (n := n) (c := c) (i := i) hin rfl (by kernel_rfl) (by kernel_rfl)),
                            RS.StepE.load 131 (.agg (encS x)) (by kernel_rfl) (by kernel_rfl) rfl (fun f w h => h) (fun f wq p1 p2 h => load38 HX.out (Kd.C_below HCF.out h) HN.out hin rfl (by kernel_rfl)),
                            RS.StepE.load 132 (.bool false) (by kernel_rfl) (by kernel_rfl) rfl (fun f w h => h) (fun f wq p1 p2 h => (s_eql38 (a := y) (b := x) rfl (by kernel_rfl) (by kernel_rfl)).trans (by rw [HQE.out])), trivial⟩
                        rintro f w_ hf hs
                        have HKb := Aside0.mk hs
                        clear hf hs
                        (try simp only [RS.sets, List.setIfInBounds_toArray, List.set_cons_zero, List.set_cons_succ])
                        go_wp2_with fail
                        exact ⟨⟨k + 1, by omega, by go_num, by rw [HNX.out]; simp [HQE.out], HKb.out⟩, by simp [intOf]; omega⟩
                      · have HQE := Aside0.mk heq
                        clear heq
                        go_upto_region 30 with (fail)
                        refine RS.wp_events (by kernel_rfl) [(124, .slice (some ad) n c), (125, .int .i64 ((k : Nat) : Int)), (126, .pointer (some (ad.add (k * 4)))), (127, .agg (encS y)), (128, .slice (some ad) n c), (129, .int .i64 ((i : Nat) : Int)), (130, .pointer (some (ad.add (i * 4)))), (131, .agg (encS x)), (132, .bool true)] (fun f wq => Below wf.heap.size wf wq) (by kernel_rfl) (by kernel_rfl) (fun f hf => ?_) ?_ ?_
                        · exact bY_ HK.out
                        · exact ⟨RS.StepE.pure 124 (by kernel_rfl) rfl (fun w => by kernel_rfl) (fun f w h => h),
                            RS.StepE.pure 125 (by kernel_rfl) rfl (fun w => by kernel_rfl) (fun f w h => h),
                            RS.StepE.load 126 (.pointer (some (ad.add (k * 4)))) (by kernel_rfl) (by kernel_rfl) rfl (fun f w h => h) (fun f wq p1 p2 h => idx33 (n := n) (c := c) (i := k) hkn rfl (by kernel_rfl) (by kernel_rfl)),
                            RS.StepE.load 127 (.agg (encS y)) (by kernel_rfl) (by kernel_rfl) rfl (fun f w h => h) (fun f wq p1 p2 h => load38 HYE.out (Kd.C_below HCF.out h) HN.out hkn rfl (by kernel_rfl)),
                            RS.StepE.pure 128 (by kernel_rfl) rfl (fun w => by kernel_rfl) (fun f w h => h),
                            RS.StepE.pure 129 (by kernel_rfl) rfl (fun w => by kernel_rfl) (fun f w h => h),
                            RS.StepE.load 130 (.pointer (some (ad.add (i * 4)))) (by kernel_rfl) (by kernel_rfl) rfl (fun f w h => h) (fun f wq p1 p2 h => idx33 (n := n) (c := c) (i := i) hin rfl (by kernel_rfl) (by kernel_rfl)),
                            RS.StepE.load 131 (.agg (encS x)) (by kernel_rfl) (by kernel_rfl) rfl (fun f w h => h) (fun f wq p1 p2 h => load38 HX.out (Kd.C_below HCF.out h) HN.out hin rfl (by kernel_rfl)),
                            RS.StepE.load 132 (.bool true) (by kernel_rfl) (by kernel_rfl) rfl (fun f w h => h) (fun f wq p1 p2 h => (s_eql38 (a := y) (b := x) rfl (by kernel_rfl) (by kernel_rfl)).trans (by rw [HQE.out])), trivial⟩
                        rintro f w_ hf hs
                        have HKb := Aside0.mk hs
                        clear hf hs
                        (try simp only [RS.sets, List.setIfInBounds_toArray, List.set_cons_zero, List.set_cons_succ])
                        go_upto_region 31 with (fail)
                        refine wp_region_lit ?_
                        refine RS.t1 133 rfl (by kernel_rfl) (.int .i64 ((e : Nat) : Int)) (by kernel_rfl) ?_
                        (try simp only [Act.put, List.setIfInBounds_toArray, List.set_cons_zero, List.set_cons_succ])
                        refine RS.t1 134 rfl (by kernel_rfl) (.int .i64 ((e + 1 : Nat) : Int)) (n_add (by omega) rfl (by kernel_rfl) (by kernel_rfl)) ?_
                        (try simp only [Act.put, List.setIfInBounds_toArray, List.set_cons_zero, List.set_cons_succ])
                        refine RS.t1 13 rfl (by kernel_rfl) (.int .i64 ((e + 1 : Nat) : Int)) (by kernel_rfl) ?_
                        (try simp only [Act.put, List.setIfInBounds_toArray, List.set_cons_zero, List.set_cons_succ])
                        go_wp2_with fail
                        exact ⟨⟨k + 1, by omega, by go_num, by rw [HNX.out]; simp [HQE.out], HKb.out⟩, by simp [intOf]; omega⟩
                    · go_upto_region 28 with (fail)
                      refine RS.wp_textE [(118, .int .i64 ((k : Nat) : Int)), (119, .slice (some ad) n c), (120, .int .i64 ((n : Nat) : Int)), (121, .bool false)] (fun f w => wr = w) (by kernel_rfl) (by kernel_rfl) (fun f hf => ?_) ?_ ?_
                      · rfl
                      · exact ⟨RS.StepE.pure 118 (by kernel_rfl) rfl (fun w => by kernel_rfl) (fun f w h => h),
                          RS.StepE.pure 119 (by kernel_rfl) rfl (fun w => by kernel_rfl) (fun f w h => h),
                          RS.StepE.pure 120 (by kernel_rfl) rfl (fun w => by kernel_rfl) (fun f w h => h),
                          RS.StepE.load 121 (.bool false) (by kernel_rfl) (by kernel_rfl) rfl (fun f w h => h) (fun f w p1 p2 h => n_lss (a := k) (b := n) (r := false) (decide_eq_false (show ¬ (k < n) from by omega)) rfl (by kernel_rfl) (by kernel_rfl)), trivial⟩
                      rintro f wx hf rfl
                      clear hf
                      (try simp only [RS.sets, List.setIfInBounds_toArray, List.set_cons_zero, List.set_cons_succ])
                      have H13 := Aside0.mk (show C.countP (fun y => eqS y x) = e by have := HE.out; rwa [List.take_of_length_le (by rw [HN.out]; omega)] at this)
                      clear HE hk hkn
                      obtain ⟨e13, he13⟩ : ∃ z, z = e := ⟨_, rfl⟩
                      subst he13
                      go_upto_region 32 with (fail)
                      refine RS.wp_textE [(16, .int .i64 ((0 : Nat) : Int))] (fun f w => wr = w) (by kernel_rfl) (by kernel_rfl) (fun f hf => ?_) ?_ ?_
                      · rfl
                      · exact ⟨RS.StepE.pure 16 (by kernel_rfl) rfl (fun w => by kernel_rfl) (fun f w h => h), trivial⟩
                      rintro f wx hf rfl
                      clear hf
                      (try simp only [RS.sets, List.setIfInBounds_toArray, List.set_cons_zero, List.set_cons_succ])
                      go_upto_region 33 with (fail)
                      go_loopw [14, 16] (fun s t wr => ∃ k : Nat, k ≤ m ∧ t = .int .i64 (k : Int) ∧ s = .int .i64 (((ys.take k).countP (fun y => eqS y x) : Nat) : Int) ∧ Below wf.heap.size wf wr) (fun s t _ => ((m : Int) - intOf t).toNat)
                      case atStart => exact ⟨0, Nat.zero_le _, rfl, rfl, HK.out⟩
                      case round =>
                        obtain ⟨k, hk, rfl, rfl, hb⟩ := hrel
                        have HK3 := Aside0.mk hb
                        clear hb
                        obtain ⟨e, he⟩ : ∃ e, (ys.take k).countP (fun y => eqS y x) = e := ⟨_, rfl⟩
                        have HE := Aside0.mk he
                        have hel : e ≤ 100 := by rw [← he]; exact Nat.le_trans (countP_le ys _ k) (by rw [HM.out]; omega)
                        rw [he]
                        clear he
                        by_cases hkn : k < m
                        · go_upto_region 33 with (fail)
                          refine RS.wp_textE [(135, .int .i64 ((k : Nat) : Int)), (136, .slice A9 m c9), (137, .int .i64 ((m : Nat) : Int)), (138, .bool true)] (fun f w => wr = w) (by kernel_rfl) (by kernel_rfl) (fun f hf => ?_) ?_ ?_
                          · rfl
                          · exact ⟨RS.StepE.pure 135 (by kernel_rfl) rfl (fun w => by kernel_rfl) (fun f w h => h),
                              RS.StepE.pure 136 (by kernel_rfl) rfl (fun w => by kernel_rfl) (fun f w h => h),
                              RS.StepE.pure 137 (by kernel_rfl) rfl (fun w => by kernel_rfl) (fun f w h => h),
                              RS.StepE.load 138 (.bool true) (by kernel_rfl) (by kernel_rfl) rfl (fun f w h => h) (fun f w p1 p2 h => n_lss (a := k) (b := m) (r := true) (decide_eq_true (show k < m from by omega)) rfl (by kernel_rfl) (by kernel_rfl)), trivial⟩
                          rintro f wx hf rfl
                          clear hf
                          (try simp only [RS.sets, List.setIfInBounds_toArray, List.set_cons_zero, List.set_cons_succ])
                          obtain ⟨yd, ey, -⟩ := el38 HY.out HM.out k hkn
                          subst ey
                          obtain ⟨y, hy⟩ : ∃ y, ys.getD k z38 = y := ⟨_, rfl⟩
                          have HYE := Aside0.mk hy
                          have HNX := Aside0.mk (countP_next (C := ys) (p := fun y => eqS y x) (i := k) (by rw [HM.out]; exact hkn))
                          rw [hy, HE.out] at HNX
                          clear hy
                          cases heq : eqS y x
                          · have HQE := Aside0.mk heq
                            clear heq
                            go_upto_region 35 with (fail)
                            refine RS.wp_events (by kernel_rfl) [(141, .slice (some yd) m c9), (142, .int .i64 ((k : Nat) : Int)), (143, .pointer (some (yd.add (k * 4)))), (144, .agg (encS y)), (145, .slice (some ad) n c), (146, .int .i64 ((i : Nat) : Int)), (147, .pointer (some (ad.add (i * 4)))), (148, .agg (encS x)), (149, .bool false)] (fun f wq => Below wf.heap.size wf wq) (by kernel_rfl) (by kernel_rfl) (fun f hf => ?_) ?_ ?_
                            · exact bY_ HK3.out
                            · exact ⟨RS.StepE.pure 141 (by kernel_rfl) rfl (fun w => by kernel_rfl) (fun f w h => h),
                                RS.StepE.pure 142 (by kernel_rfl) rfl (fun w => by kernel_rfl) (fun f w h => h),
                                RS.StepE.load 143 (.pointer (some (yd.add (k * 4)))) (by kernel_rfl) (by kernel_rfl) rfl (fun f w h => h) (fun f wq p1 p2 h => idx33 (n := m) (c := c9) (i := k) hkn rfl (by kernel_rfl) (by kernel_rfl)),
                                RS.StepE.load 144 (.agg (encS y)) (by kernel_rfl) (by kernel_rfl) rfl (fun f w h => h) (fun f wq p1 p2 h => load38 HYE.out (Kd.C_below HY.out h) HM.out hkn rfl (by kernel_rfl)),
                                RS.StepE.pure 145 (by kernel_rfl) rfl (fun w => by kernel_rfl) (fun f w h => h),
                                RS.StepE.pure 146 (by kernel_rfl) rfl (fun w => by kernel_rfl) (fun f w h => h),
                                RS.StepE.load 147 (.pointer (some (ad.add (i * 4)))) (by kernel_rfl) (by kernel_rfl) rfl (fun f w h => h) (fun f wq p1 p2 h => idx33 (n := n) (c := c) (i := i) hin rfl (by kernel_rfl) (by kernel_rfl)),
                                RS.StepE.load 148 (.agg (encS x)) (by kernel_rfl) (by kernel_rfl) rfl (fun f w h => h) (fun f wq p1 p2 h => load38 HX.out (Kd.C_below HCF.out h) HN.out hin rfl (by kernel_rfl)),
                                RS.StepE.load 149 (.bool false) (by kernel_rfl) (by kernel_rfl) rfl (fun f w h => h) (fun f wq p1 p2 h => (s_eql38 (a := y) (b := x) rfl (by kernel_rfl) (by kernel_rfl)).trans (by rw [HQE.out])), trivial⟩
                            rintro f w_ hf hs
                            have HK3b := Aside0.mk hs
                            clear hf hs
                            (try simp only [RS.sets, List.setIfInBounds_toArray, List.set_cons_zero, List.set_cons_succ])
                            go_wp2_with fail
                            exact ⟨⟨k + 1, by omega, by go_num, by rw [HNX.out]; simp [HQE.out], HK3b.out⟩, by simp [intOf]; omega⟩
                          · have HQE := Aside0.mk heq
                            clear heq
                            go_upto_region 35 with (fail)
                            refine RS.wp_events (by kernel_rfl) [(141, .slice (some yd) m c9), (142, .int .i64 ((k : Nat) : Int)), (143, .pointer (some (yd.add (k * 4)))), (144, .agg (encS y)), (145, .slice (some ad) n c), (146, .int .i64 ((i : Nat) : Int)), (147, .pointer (some (ad.add (i * 4)))), (148, .agg (encS x)), (149, .bool true)] (fun f wq => Below wf.heap.size wf wq) (by kernel_rfl) (by kernel_rfl) (fun f hf => ?_) ?_ ?_
                            · exact bY_ HK3.out
                            · exact ⟨RS.StepE.pure 141 (by kernel_rfl) rfl (fun w => by kernel_rfl) (fun f w h => h),
                                RS.StepE.pure 142 (by kernel_rfl) rfl (fun w => by kernel_rfl) (fun f w h => h),
                                RS.StepE.load 143 (.pointer (some (yd.add (k * 4)))) (by kernel_rfl) (by kernel_rfl) rfl (fun f w h => h) (fun f wq p1 p2 h => idx33 (n := m) (c := c9) (i := k) hkn rfl (by kernel_rfl) (by kernel_rfl)),
                                RS.StepE.load 144 (.agg (encS y)) (by kernel_rfl) (by kernel_rfl) rfl (fun f w h => h) (fun f wq p1 p2 h => load38 HYE.out (Kd.C_below HY.out h) HM.out hkn rfl (by kernel_rfl)),
                                RS.StepE.pure 145 (by kernel_rfl) rfl (fun w => by kernel_rfl) (fun f w h => h),
                                RS.StepE.pure 146 (by kernel_rfl) rfl (fun w => by kernel_rfl) (fun f w h => h),
                                RS.StepE.load 147 (.pointer (some (ad.add (i * 4)))) (by kernel_rfl) (by kernel_rfl) rfl (fun f w h => h) (fun f wq p1 p2 h => idx33 (n := n) (c := c) (i := i) hin rfl (by kernel_rfl) (by kernel_rfl)),
                                RS.StepE.load 148 (.agg (encS x)) (by kernel_rfl) (by kernel_rfl) rfl (fun f w h => h) (fun f wq p1 p2 h => load38 HX.out (Kd.C_below HCF.out h) HN.out hin rfl (by kernel_rfl)),
                                RS.StepE.load 149 (.bool true) (by kernel_rfl) (by kernel_rfl) rfl (fun f w h => h) (fun f wq p1 p2 h => (s_eql38 (a := y) (b := x) rfl (by kernel_rfl) (by kernel_rfl)).trans (by rw [HQE.out])), trivial⟩
                            rintro f w_ hf hs
                            have HK3b := Aside0.mk hs
                            clear hf hs
                            (try simp only [RS.sets, List.setIfInBounds_toArray, List.set_cons_zero, List.set_cons_succ])
                            go_upto_region 36 with (fail)
                            refine wp_region_lit ?_
                            refine RS.t1 150 rfl (by kernel_rfl) (.int .i64 ((e : Nat) : Int)) (by kernel_rfl) ?_
                            (try simp only [Act.put, List.setIfInBounds_toArray, List.set_cons_zero, List.set_cons_succ])
                            refine RS.t1 151 rfl (by kernel_rfl) (.int .i64 ((e + 1 : Nat) : Int)) (n_add (by omega) rfl (by kernel_rfl) (by kernel_rfl)) ?_
                            (try simp only [Act.put, List.setIfInBounds_toArray, List.set_cons_zero, List.set_cons_succ])
                            refine RS.t1 14 rfl (by kernel_rfl) (.int .i64 ((e + 1 : Nat) : Int)) (by kernel_rfl) ?_
                            (try simp only [Act.put, List.setIfInBounds_toArray, List.set_cons_zero, List.set_cons_succ])
                            go_wp2_with fail
                            exact ⟨⟨k + 1, by omega, by go_num, by rw [HNX.out]; simp [HQE.out], HK3b.out⟩, by simp [intOf]; omega⟩
                        · go_upto_region 33 with (fail)
                          refine RS.wp_textE [(135, .int .i64 ((k : Nat) : Int)), (136, .slice A9 m c9), (137, .int .i64 ((m : Nat) : Int)), (138, .bool false)] (fun f w => wr = w) (by kernel_rfl) (by kernel_rfl) (fun f hf => ?_) ?_ ?_
                          · rfl
                          · exact ⟨RS.StepE.pure 135 (by kernel_rfl) rfl (fun w => by kernel_rfl) (fun f w h => h),
                              RS.StepE.pure 136 (by kernel_rfl) rfl (fun w => by kernel_rfl) (fun f w h => h),
                              RS.StepE.pure 137 (by kernel_rfl) rfl (fun w => by kernel_rfl) (fun f w h => h),
                              RS.StepE.load 138 (.bool false) (by kernel_rfl) (by kernel_rfl) rfl (fun f w h => h) (fun f w p1 p2 h => n_lss (a := k) (b := m) (r := false) (decide_eq_false (show ¬ (k < m) from by omega)) rfl (by kernel_rfl) (by kernel_rfl)), trivial⟩
                          rintro f wx hf rfl
                          clear hf
                          (try simp only [RS.sets, List.setIfInBounds_toArray, List.set_cons_zero, List.set_cons_succ])
                          have H14 := Aside0.mk (show ys.countP (fun y => eqS y x) = e by have := HE.out; rwa [List.take_of_length_le (by rw [HM.out]; omega)] at this)
                          clear HE hk hkn
                          have hee : e13 = e := by rw [← H13.out, ← H14.out]; exact (count_funs HSS.out HF3.out).symm
                          subst hee
                          go_upto_region 37 with (fail)
                          refine RS.wp_textE [(152, .int .i64 ((e13 : Nat) : Int)), (153, .int .i64 ((e13 : Nat) : Int)), (154, .bool false)] (fun f w => wr = w) (by kernel_rfl) (by kernel_rfl) (fun f hf => ?_) ?_ ?_
                          · rfl
                          · exact ⟨RS.StepE.pure 152 (by kernel_rfl) rfl (fun w => by kernel_rfl) (fun f w h => h),
                              RS.StepE.pure 153 (by kernel_rfl) rfl (fun w => by kernel_rfl) (fun f w h => h),
                              RS.StepE.load 154 (.bool false) (by kernel_rfl) (by kernel_rfl) rfl (fun f w h => h) (fun f w p1 p2 h => n_neq (a := e13) (b := e13) (r := false) (decide_eq_true (show e13 = e13 from by omega)) rfl (by kernel_rfl) (by kernel_rfl)), trivial⟩
                          rintro f wx hf rfl
                          clear hf
                          (try simp only [RS.sets, List.setIfInBounds_toArray, List.set_cons_zero, List.set_cons_succ])
                          go_wp2_with fail
                          exact ⟨⟨i + 1, by omega, by go_num, by rw [HFN.out, if_pos HF3.out, List.length_append, HQL.out]; rfl, HK3.out⟩, by simp [intOf]; omega⟩
              · go_upto_region 22 with (fail)
                refine RS.wp_textE [(104, .int .i64 ((i : Nat) : Int)), (105, .slice A n c), (106, .int .i64 ((n : Nat) : Int)), (107, .bool false)] (fun f w => wr = w) (by kernel_rfl) (by kernel_rfl) (fun f hf => ?_) ?_ ?_
                · rfl
                · exact ⟨RS.StepE.pure 104 (by kernel_rfl) rfl (fun w => by kernel_rfl) (fun f w h => h),
                    RS.StepE.pure 105 (by kernel_rfl) rfl (fun w => by kernel_rfl) (fun f w h => h),
                    RS.StepE.pure 106 (by kernel_rfl) rfl (fun w => by kernel_rfl) (fun f w h => h),
                    RS.StepE.load 107 (.bool false) (by kernel_rfl) (by kernel_rfl) rfl (fun f w h => h) (fun f w p1 p2 h => n_lss (a := i) (b := n) (r := false) (decide_eq_false (show ¬ (i < n) from by omega)) rfl (by kernel_rfl) (by kernel_rfl)), trivial⟩
                rintro f wx hf rfl
                clear hf
                (try simp only [RS.sets, List.setIfInBounds_toArray, List.set_cons_zero, List.set_cons_succ])
                have hqm : q = m := by rw [← HQL.out, List.take_of_length_le (by rw [HN.out]; omega)]; exact HFL.out.symm
                subst hqm
                go_upto_region 39 with (fail)
                refine wp_region_lit ?_
                refine RS.t1 155 rfl (by kernel_rfl) (.slice A9 q c9) (by kernel_rfl) ?_
                (try simp only [Act.put, List.setIfInBounds_toArray, List.set_cons_zero, List.set_cons_succ])
                refine RS.t1 156 rfl (by kernel_rfl) (.int .i64 ((q : Nat) : Int)) (by kernel_rfl) ?_
                (try simp only [Act.put, List.setIfInBounds_toArray, List.set_cons_zero, List.set_cons_succ])
                refine RS.t1 157 rfl (by kernel_rfl) (.int .i64 ((q : Nat) : Int)) (by kernel_rfl) ?_
                (try simp only [Act.put, List.setIfInBounds_toArray, List.set_cons_zero, List.set_cons_succ])
                refine RS.t1 158 rfl (by kernel_rfl) (.bool true) (n_eql (a := q) (b := q) (r := true) (decide_eq_true (show q = q from by omega)) rfl (by kernel_rfl) (by kernel_rfl)) ?_
                (try simp only [Act.put, List.setIfInBounds_toArray, List.set_cons_zero, List.set_cons_succ])
                refine RS.t1 159 rfl (by kernel_rfl) (.bool true) (by kernel_rfl) ?_
                (try simp only [Act.put, List.setIfInBounds_toArray, List.set_cons_zero, List.set_cons_succ])
                refine RS.t1 160 rfl (by kernel_rfl) (.slice A n c) (by kernel_rfl) ?_
                (try simp only [Act.put, List.setIfInBounds_toArray, List.set_cons_zero, List.set_cons_succ])
                refine RS.t1 161 rfl (by kernel_rfl) (.slice A n c) (by kernel_rfl) ?_
                (try simp only [Act.put, List.setIfInBounds_toArray, List.set_cons_zero, List.set_cons_succ])
                refine RS.tC 162 rfl (by kernel_rfl) (show _ = Result.ok (Next.enter 13 #[.slice A n c, .slice A n c]) _ from by kernel_rfl) ?_
                refine (same_self A c n C _ (Kd.C_below HCF.out HQ.out) HN.out (by omega)).mono ?_
                rintro e w14_ ⟨rfl, hb_⟩
                have B15_ := Aside0.mk (below_step HQ.out hb_)
                clear hb_ HQ
                refine ⟨_, rfl, ?_⟩
                (try simp only [Act.put, List.setIfInBounds_toArray, List.set_cons_zero, List.set_cons_succ])
                refine RS.t1 163 rfl (by kernel_rfl) (.bool true) (by kernel_rfl) ?_
                (try simp only [Act.put, List.setIfInBounds_toArray, List.set_cons_zero, List.set_cons_succ])
                refine RS.t1 164 rfl (by kernel_rfl) (.bool true) (by kernel_rfl) ?_
                (try simp only [Act.put, List.setIfInBounds_toArray, List.set_cons_zero, List.set_cons_succ])
                refine RS.tC 165 rfl (by kernel_rfl) (show _ = Result.ok (Next.enter 8 #[]) _ from by kernel_rfl) ?_
                refine (wakes_calls _).mono ?_
                rintro e w16_ ⟨rfl, hb_⟩
                have B17_ := Aside0.mk (below_step B15_.out hb_)
                clear hb_ B15_
                refine ⟨_, rfl, ?_⟩
                (try simp only [Act.put, List.setIfInBounds_toArray, List.set_cons_zero, List.set_cons_succ])
                refine RS.t1 166 rfl (by kernel_rfl) (.bool true) (by kernel_rfl) ?_
                (try simp only [Act.put, List.setIfInBounds_toArray, List.set_cons_zero, List.set_cons_succ])
                refine RS.t1 4 rfl (by kernel_rfl) (.bool true) (by kernel_rfl) ?_
                (try simp only [Act.put, List.setIfInBounds_toArray, List.set_cons_zero, List.set_cons_succ])
                go_wp2_with fail
                go_ret
                exact ⟨rfl, below_step BW.out B17_.out⟩
      · go_upto_region 6 with (fail)
        refine RS.wp_textE [(27, .int .i64 ((i : Nat) : Int)), (28, .slice A n c), (29, .int .i64 ((n : Nat) : Int)), (30, .bool false), (31, .bool false), (32, undef), (33, undef), (34, .bool false)] (fun f w => wr = w) (by kernel_rfl) (by kernel_rfl) (fun f hf => ?_) ?_ ?_
        · rfl
        · exact ⟨RS.StepE.pure 27 (by kernel_rfl) rfl (fun w => by kernel_rfl) (fun f w h => h),
            RS.StepE.pure 28 (by kernel_rfl) rfl (fun w => by kernel_rfl) (fun f w h => h),
            RS.StepE.pure 29 (by kernel_rfl) rfl (fun w => by kernel_rfl) (fun f w h => h),
            RS.StepE.load 30 (.bool false) (by kernel_rfl) (by kernel_rfl) rfl (fun f w h => h) (fun f w p1 p2 h => n_lss (a := i) (b := n) (r := false) (decide_eq_false (show ¬ (i < n) from by omega)) rfl (by kernel_rfl) (by kernel_rfl)),
            RS.StepE.pure 31 (by kernel_rfl) rfl (fun w => by kernel_rfl) (fun f w h => h),
            RS.StepE.off 32 (by kernel_rfl) rfl (by kernel_rfl) (fun f w h => h),
            RS.StepE.off 33 (by kernel_rfl) rfl (by kernel_rfl) (fun f w h => h),
            RS.StepE.pure 34 (by kernel_rfl) rfl (fun w => by kernel_rfl) (fun f w h => h), trivial⟩
        rintro f wx hf rfl
        clear hf
        (try simp only [RS.sets, List.setIfInBounds_toArray, List.set_cons_zero, List.set_cons_succ])
        clear hi hin
        have BF0 := Aside0.mk (below_step B8_.out HB.out)
        have N7 := Aside0.mk (heap_below HB.out N9_.out)
        go_upto_region 12 with (fail)
        refine RS.wp_textE [(61, .bool true), (62, .bool false), (63, .bool false), (64, undef), (65, undef), (66, undef), (67, undef), (68, undef), (69, undef), (70, undef), (71, .bool false)] (fun f wq => Below w7_.heap.size w7_ wq) (by kernel_rfl) (by kernel_rfl) (fun f hf => ?_) ?_ ?_
        · exact HB.out
        · exact ⟨RS.StepE.pure 61 (by kernel_rfl) rfl (fun w => by kernel_rfl) (fun f w h => h),
            RS.StepE.pure 62 (by kernel_rfl) rfl (fun w => by kernel_rfl) (fun f w h => h),
            RS.StepE.pure 63 (by kernel_rfl) rfl (fun w => by kernel_rfl) (fun f w h => h),
            RS.StepE.off 64 (by kernel_rfl) rfl (by kernel_rfl) (fun f w h => h),
            RS.StepE.off 65 (by kernel_rfl) rfl (by kernel_rfl) (fun f w h => h),
            RS.StepE.off 66 (by kernel_rfl) rfl (by kernel_rfl) (fun f w h => h),
            RS.StepE.off 67 (by kernel_rfl) rfl (by kernel_rfl) (fun f w h => h),
            RS.StepE.off 68 (by kernel_rfl) rfl (by kernel_rfl) (fun f w h => h),
            RS.StepE.off 69 (by kernel_rfl) rfl (by kernel_rfl) (fun f w h => h),
            RS.StepE.off 70 (by kernel_rfl) rfl (by kernel_rfl) (fun f w h => h),
            RS.StepE.pure 71 (by kernel_rfl) rfl (fun w => by kernel_rfl) (fun f w h => h), trivial⟩
        rintro f w_ hf hs
        have HB1 := Aside0.mk hs
        clear hf hs
        (try simp only [RS.sets, List.setIfInBounds_toArray, List.set_cons_zero, List.set_cons_succ])
        have BF := Aside0.mk (below_step B8_.out HB1.out)
        go_upto_region 14 with (fail)
        refine wp_region_lit ?_
        refine RS.t1 72 rfl (by kernel_rfl) (.slice A n c) (by kernel_rfl) ?_
        (try simp only [Act.put, List.setIfInBounds_toArray, List.set_cons_zero, List.set_cons_succ])
        refine RS.tC 73 rfl (by kernel_rfl) (show _ = Result.ok (Next.enter 16 #[.slice A n c]) _ from by kernel_rfl) ?_
        refine (functions_calls A c n C _ (Kd.C_below HC.out BF.out) HN.out (by omega)).mono ?_
        rintro e wf ⟨v9, rfl, ys, hss, hr⟩
        obtain ⟨A9, c9, rfl, -, hC9, hb9⟩ := hr.form
        obtain ⟨m, hm⟩ : ∃ m, ys.length = m := ⟨_, rfl⟩
        have HM := Aside0.mk hm
        have HSS := Aside0.mk hss
        have HY := Aside0.mk hC9
        have HCF := Aside0.mk (Kd.C_below (Kd.C_below HC.out BF.out) hb9)
        have BW := Aside0.mk (below_step BF.out hb9)
        have hml : m ≤ 100 := by rw [← hm, hss.length]; exact Nat.le_trans (List.length_filter_le _ _) (by rw [HN.out]; exact h5)
        have HFL := Aside0.mk (show m = (funs C).length by rw [← hm, hss.length])
        rw [hm]
        have BB := Aside0.mk (Below.refl wf.heap.size wf)
        clear hm hss hr hC9 hb9
        refine ⟨_, rfl, ?_⟩
        (try simp only [Act.put, List.setIfInBounds_toArray, List.set_cons_zero, List.set_cons_succ])
        refine RS.t1 9 rfl (by kernel_rfl) (.slice A9 m c9) (by kernel_rfl) ?_
        (try simp only [Act.put, List.setIfInBounds_toArray, List.set_cons_zero, List.set_cons_succ])
        go_upto_region 15 with (fail)
        refine RS.wp_textE [(10, .int .i64 ((0 : Nat) : Int))] (fun f w => wf = w) (by kernel_rfl) (by kernel_rfl) (fun f hf => ?_) ?_ ?_
        · rfl
        · exact ⟨RS.StepE.pure 10 (by kernel_rfl) rfl (fun w => by kernel_rfl) (fun f w h => h), trivial⟩
        rintro f wx hf rfl
        clear hf
        (try simp only [RS.sets, List.setIfInBounds_toArray, List.set_cons_zero, List.set_cons_succ])
        go_upto_region 16 with (fail)
        refine RS.wp_textE [(11, .int .i64 ((0 : Nat) : Int))] (fun f w => wf = w) (by kernel_rfl) (by kernel_rfl) (fun f hf => ?_) ?_ ?_
        · rfl
        · exact ⟨RS.StepE.pure 11 (by kernel_rfl) rfl (fun w => by kernel_rfl) (fun f w h => h), trivial⟩
        rintro f wx hf rfl
        clear hf
        (try simp only [RS.sets, List.setIfInBounds_toArray, List.set_cons_zero, List.set_cons_succ])
        go_upto_region 17 with (fail)
        go_loopw [11] (fun t wr => ∃ i : Nat, i ≤ m ∧ t = .int .i64 (i : Int) ∧ Below wf.heap.size wf wr) (fun t _ => ((m : Int) - intOf t).toNat)
        case atStart => exact ⟨0, Nat.zero_le _, rfl, BB.out⟩
        case round =>
          obtain ⟨i, hi, rfl, hb⟩ := hrel
          have HR := Aside0.mk hb
          clear hb
          by_cases hin : i < m
          · go_upto_region 17 with (fail)
            refine RS.wp_textE [(74, .int .i64 ((i : Nat) : Int)), (75, .slice A9 m c9), (76, .int .i64 ((m : Nat) : Int)), (77, .bool true)] (fun f w => wr = w) (by kernel_rfl) (by kernel_rfl) (fun f hf => ?_) ?_ ?_
            · rfl
            · exact ⟨RS.StepE.pure 74 (by kernel_rfl) rfl (fun w => by kernel_rfl) (fun f w h => h),
                RS.StepE.pure 75 (by kernel_rfl) rfl (fun w => by kernel_rfl) (fun f w h => h),
                RS.StepE.pure 76 (by kernel_rfl) rfl (fun w => by kernel_rfl) (fun f w h => h),
                RS.StepE.load 77 (.bool true) (by kernel_rfl) (by kernel_rfl) rfl (fun f w h => h) (fun f w p1 p2 h => n_lss (a := i) (b := m) (r := true) (decide_eq_true (show i < m from by omega)) rfl (by kernel_rfl) (by kernel_rfl)), trivial⟩
            rintro f wx hf rfl
            clear hf
            (try simp only [RS.sets, List.setIfInBounds_toArray, List.set_cons_zero, List.set_cons_succ])
            obtain ⟨yd, ey, -, -, -, -, hx3⟩ := el38 HY.out HM.out i hin
            subst ey
            have hx3 : wf.cell? ⟨(yd.add (i * 4)).block, (yd.add (i * 4)).off + 3, none⟩ = some (.bool true) := by rw [hx3, ys_func HSS.out (by rw [HM.out]; exact hin)]
            have X3 := Aside0.mk hx3
            clear hx3
            by_cases h0 : 0 < i
            · obtain ⟨yd', ey', -, -, hpa, -, -⟩ := el38 HY.out HM.out (i - 1) (by omega)
              cases ey'
              obtain ⟨yd', ey', -, -, hqa, -, -⟩ := el38 HY.out HM.out i hin
              cases ey'
              have hle := srt_get HSS.out.1 (show i - 1 ≤ i by omega) (by rw [HM.out]; exact hin)
              generalize (ys.getD (i - 1) z38).f1 = pa at hpa hle
              generalize (ys.getD i z38).f1 = qa at hqa hle
              have P1 := Aside0.mk hpa
              have Q1 := Aside0.mk hqa
              have HLE := Aside0.mk hle
              clear hpa hqa hle
              go_upto_region 19 with (fail)
              refine RS.wp_events (by kernel_rfl) [(80, .slice (some yd) m c9), (81, .int .i64 ((i : Nat) : Int)), (82, .pointer (some (yd.add (i * 4)))), (83, .pointer (some ⟨(yd.add (i * 4)).block, (yd.add (i * 4)).off + 3, none⟩)), (84, .bool true), (85, .bool false), (86, .bool false), (87, .int .i64 ((i : Nat) : Int)), (88, .bool true), (89, .bool true), (90, .slice (some yd) m c9), (91, .int .i64 ((i : Nat) : Int)), (92, .int .i64 ((i - 1 : Nat) : Int)), (93, .pointer (some (yd.add ((i - 1) * 4)))), (94, .pointer (some ⟨(yd.add ((i - 1) * 4)).block, (yd.add ((i - 1) * 4)).off + 1, none⟩)), (95, .int .u64 pa), (96, .slice (some yd) m c9), (97, .int .i64 ((i : Nat) : Int)), (98, .pointer (some (yd.add (i * 4)))), (99, .pointer (some ⟨(yd.add (i * 4)).block, (yd.add (i * 4)).off + 1, none⟩)), (100, .int .u64 qa), (101, .bool false), (102, .bool false), (103, .bool false)] (fun f wq => Below wf.heap.size wf wq) (by kernel_rfl) (by kernel_rfl) (fun f hf => ?_) ?_ ?_
              · exact bY_ HR.out
              · exact ⟨RS.StepE.pure 80 (by kernel_rfl) rfl (fun w => by kernel_rfl) (fun f w h => h),
                  RS.StepE.pure 81 (by kernel_rfl) rfl (fun w => by kernel_rfl) (fun f w h => h),
                  RS.StepE.load 82 (.pointer (some (yd.add (i * 4)))) (by kernel_rfl) (by kernel_rfl) rfl (fun f w h => h) (fun f wq p1 p2 h => idx33 (n := m) (c := c9) (i := i) hin rfl (by kernel_rfl) (by kernel_rfl)),
                  RS.StepE.pure 83 (by kernel_rfl) rfl (fun w => by kernel_rfl) (fun f w h => h),
                  RS.StepE.load 84 (.bool true) (by kernel_rfl) (by kernel_rfl) rfl (fun f w h => h) (fun f wq p1 p2 h => ld (d := .bool) Try.underlying4 rfl (pw_cell_below h X3.out) rfl (by kernel_rfl)),
                  RS.StepE.pure 85 (by kernel_rfl) rfl (fun w => by kernel_rfl) (fun f w h => h),
                  RS.StepE.pure 86 (by kernel_rfl) rfl (fun w => by kernel_rfl) (fun f w h => h),
                  RS.StepE.pure 87 (by kernel_rfl) rfl (fun w => by kernel_rfl) (fun f w h => h),
                  RS.StepE.load 88 (.bool true) (by kernel_rfl) (by kernel_rfl) rfl (fun f w h => h) (fun f w p1 p2 h => n_gtr (a := i) (b := 0) (r := true) (decide_eq_true (show 0 < i from by omega)) rfl (by kernel_rfl) (by kernel_rfl)),
                  RS.StepE.pure 89 (by kernel_rfl) rfl (fun w => by kernel_rfl) (fun f w h => h),
                  RS.StepE.pure 90 (by kernel_rfl) rfl (fun w => by kernel_rfl) (fun f w h => h),
                  RS.StepE.pure 91 (by kernel_rfl) rfl (fun w => by kernel_rfl) (fun f w h => h),
                  RS.StepE.load 92 (.int .i64 ((i - 1 : Nat) : Int)) (by kernel_rfl) (by kernel_rfl) rfl (fun f w h => h) (fun f w p1 p2 h => n_sub (by omega) (by omega) rfl (by kernel_rfl) (by kernel_rfl)),
                  RS.StepE.load 93 (.pointer (some (yd.add ((i - 1) * 4)))) (by kernel_rfl) (by kernel_rfl) rfl (fun f w h => h) (fun f wq p1 p2 h => idx33 (n := m) (c := c9) (i := (i - 1)) (by omega) rfl (by kernel_rfl) (by kernel_rfl)),
                  RS.StepE.pure 94 (by kernel_rfl) rfl (fun w => by kernel_rfl) (fun f w h => h),
                  RS.StepE.load 95 (.int .u64 pa) (by kernel_rfl) (by kernel_rfl) rfl (fun f w h => h) (fun f wq p1 p2 h => ld (d := .int .u64) Try.underlying26 rfl (pw_cell_below h P1.out) rfl (by kernel_rfl)),
                  RS.StepE.pure 96 (by kernel_rfl) rfl (fun w => by kernel_rfl) (fun f w h => h),
                  RS.StepE.pure 97 (by kernel_rfl) rfl (fun w => by kernel_rfl) (fun f w h => h),
                  RS.StepE.load 98 (.pointer (some (yd.add (i * 4)))) (by kernel_rfl) (by kernel_rfl) rfl (fun f w h => h) (fun f wq p1 p2 h => idx33 (n := m) (c := c9) (i := i) hin rfl (by kernel_rfl) (by kernel_rfl)),
                  RS.StepE.pure 99 (by kernel_rfl) rfl (fun w => by kernel_rfl) (fun f w h => h),
                  RS.StepE.load 100 (.int .u64 qa) (by kernel_rfl) (by kernel_rfl) rfl (fun f w h => h) (fun f wq p1 p2 h => ld (d := .int .u64) Try.underlying26 rfl (pw_cell_below h Q1.out) rfl (by kernel_rfl)),
                  RS.StepE.load 101 (.bool false) (by kernel_rfl) (by kernel_rfl) rfl (fun f w h => h) (fun f wq p1 p2 h => c_gtr (k := .u64) (a := pa) (b := qa) (r := false) (decide_eq_false (by have := HLE.out; omega)) rfl (by kernel_rfl) (by kernel_rfl)),
                  RS.StepE.pure 102 (by kernel_rfl) rfl (fun w => by kernel_rfl) (fun f w h => h),
                  RS.StepE.pure 103 (by kernel_rfl) rfl (fun w => by kernel_rfl) (fun f w h => h), trivial⟩
              rintro f w_ hf hs
              have HR2 := Aside0.mk hs
              clear hf hs
              (try simp only [RS.sets, List.setIfInBounds_toArray, List.set_cons_zero, List.set_cons_succ])
              go_wp2_with fail
              exact ⟨⟨i + 1, by omega, by go_num, HR2.out⟩, by simp [intOf]; omega⟩
            · go_upto_region 19 with (fail)
              refine RS.wp_events (by kernel_rfl) [(80, .slice (some yd) m c9), (81, .int .i64 ((i : Nat) : Int)), (82, .pointer (some (yd.add (i * 4)))), (83, .pointer (some ⟨(yd.add (i * 4)).block, (yd.add (i * 4)).off + 3, none⟩)), (84, .bool true), (85, .bool false), (86, .bool false), (87, .int .i64 ((i : Nat) : Int)), (88, .bool false), (89, .bool false), (90, undef), (91, undef), (92, undef), (93, undef), (94, undef), (95, undef), (96, undef), (97, undef), (98, undef), (99, undef), (100, undef), (101, undef), (102, .bool false), (103, .bool false)] (fun f wq => Below wf.heap.size wf wq) (by kernel_rfl) (by kernel_rfl) (fun f hf => ?_) ?_ ?_
              · exact bY_ HR.out
              · exact ⟨RS.StepE.pure 80 (by kernel_rfl) rfl (fun w => by kernel_rfl) (fun f w h => h),
                  RS.StepE.pure 81 (by kernel_rfl) rfl (fun w => by kernel_rfl) (fun f w h => h),
                  RS.StepE.load 82 (.pointer (some (yd.add (i * 4)))) (by kernel_rfl) (by kernel_rfl) rfl (fun f w h => h) (fun f wq p1 p2 h => idx33 (n := m) (c := c9) (i := i) hin rfl (by kernel_rfl) (by kernel_rfl)),
                  RS.StepE.pure 83 (by kernel_rfl) rfl (fun w => by kernel_rfl) (fun f w h => h),
                  RS.StepE.load 84 (.bool true) (by kernel_rfl) (by kernel_rfl) rfl (fun f w h => h) (fun f wq p1 p2 h => ld (d := .bool) Try.underlying4 rfl (pw_cell_below h X3.out) rfl (by kernel_rfl)),
                  RS.StepE.pure 85 (by kernel_rfl) rfl (fun w => by kernel_rfl) (fun f w h => h),
                  RS.StepE.pure 86 (by kernel_rfl) rfl (fun w => by kernel_rfl) (fun f w h => h),
                  RS.StepE.pure 87 (by kernel_rfl) rfl (fun w => by kernel_rfl) (fun f w h => h),
                  RS.StepE.load 88 (.bool false) (by kernel_rfl) (by kernel_rfl) rfl (fun f w h => h) (fun f w p1 p2 h => n_gtr (a := i) (b := 0) (r := false) (decide_eq_false (show ¬ (0 < i) from by omega)) rfl (by kernel_rfl) (by kernel_rfl)),
                  RS.StepE.pure 89 (by kernel_rfl) rfl (fun w => by kernel_rfl) (fun f w h => h),
                  RS.StepE.off 90 (by kernel_rfl) rfl (by kernel_rfl) (fun f w h => h),
                  RS.StepE.off 91 (by kernel_rfl) rfl (by kernel_rfl) (fun f w h => h),
                  RS.StepE.off 92 (by kernel_rfl) rfl (by kernel_rfl) (fun f w h => h),
                  RS.StepE.off 93 (by kernel_rfl) rfl (by kernel_rfl) (fun f w h => h),
                  RS.StepE.off 94 (by kernel_rfl) rfl (by kernel_rfl) (fun f w h => h),
                  RS.StepE.off 95 (by kernel_rfl) rfl (by kernel_rfl) (fun f w h => h),
                  RS.StepE.off 96 (by kernel_rfl) rfl (by kernel_rfl) (fun f w h => h),
                  RS.StepE.off 97 (by kernel_rfl) rfl (by kernel_rfl) (fun f w h => h),
                  RS.StepE.off 98 (by kernel_rfl) rfl (by kernel_rfl) (fun f w h => h),
                  RS.StepE.off 99 (by kernel_rfl) rfl (by kernel_rfl) (fun f w h => h),
                  RS.StepE.off 100 (by kernel_rfl) rfl (by kernel_rfl) (fun f w h => h),
                  RS.StepE.off 101 (by kernel_rfl) rfl (by kernel_rfl) (fun f w h => h),
                  RS.StepE.pure 102 (by kernel_rfl) rfl (fun w => by kernel_rfl) (fun f w h => h),
                  RS.StepE.pure 103 (by kernel_rfl) rfl (fun w => by kernel_rfl) (fun f w h => h), trivial⟩
              rintro f w_ hf hs
              have HR2 := Aside0.mk hs
              clear hf hs
              (try simp only [RS.sets, List.setIfInBounds_toArray, List.set_cons_zero, List.set_cons_succ])
              go_wp2_with fail
              exact ⟨⟨i + 1, by omega, by go_num, HR2.out⟩, by simp [intOf]; omega⟩
          · go_upto_region 17 with (fail)
            refine RS.wp_textE [(74, .int .i64 ((i : Nat) : Int)), (75, .slice A9 m c9), (76, .int .i64 ((m : Nat) : Int)), (77, .bool false)] (fun f w => wr = w) (by kernel_rfl) (by kernel_rfl) (fun f hf => ?_) ?_ ?_
            · rfl
            · exact ⟨RS.StepE.pure 74 (by kernel_rfl) rfl (fun w => by kernel_rfl) (fun f w h => h),
                RS.StepE.pure 75 (by kernel_rfl) rfl (fun w => by kernel_rfl) (fun f w h => h),
                RS.StepE.pure 76 (by kernel_rfl) rfl (fun w => by kernel_rfl) (fun f w h => h),
                RS.StepE.load 77 (.bool false) (by kernel_rfl) (by kernel_rfl) rfl (fun f w h => h) (fun f w p1 p2 h => n_lss (a := i) (b := m) (r := false) (decide_eq_false (show ¬ (i < m) from by omega)) rfl (by kernel_rfl) (by kernel_rfl)), trivial⟩
            rintro f wx hf rfl
            clear hf
            (try simp only [RS.sets, List.setIfInBounds_toArray, List.set_cons_zero, List.set_cons_succ])
            clear hi hin
            go_upto_region 21 with (fail)
            refine RS.wp_textE [(12, .int .i64 ((0 : Nat) : Int))] (fun f w => wr = w) (by kernel_rfl) (by kernel_rfl) (fun f hf => ?_) ?_ ?_
            · rfl
            · exact ⟨RS.StepE.pure 12 (by kernel_rfl) rfl (fun w => by kernel_rfl) (fun f w h => h), trivial⟩
            rintro f wx hf rfl
            clear hf
            (try simp only [RS.sets, List.setIfInBounds_toArray, List.set_cons_zero, List.set_cons_succ])
            go_upto_region 22 with (fail)
            go_loopw [10, 12] (fun s t wr => ∃ i : Nat, i ≤ n ∧ t = .int .i64 (i : Int) ∧ s = .int .i64 (((funs (C.take i)).length : Nat) : Int) ∧ Below wf.heap.size wf wr) (fun s t _ => ((n : Int) - intOf t).toNat)
            case atStart => exact ⟨0, Nat.zero_le _, rfl, rfl, HR.out⟩
            case round =>
              obtain ⟨i, hi, rfl, rfl, hb⟩ := hrel
              have HQ := Aside0.mk hb
              clear hb
              obtain ⟨q, hq⟩ : ∃ q, (funs (C.take i)).length = q := ⟨_, rfl⟩
              have HQL := Aside0.mk hq
              have hql : q ≤ 100 := by rw [← hq]; exact Nat.le_trans (funs_le C i) (by rw [HN.out]; exact h5)
              rw [hq]
              clear hq
              by_cases hin : i < n
              · go_upto_region 22 with (fail)
                refine RS.wp_textE [(104, .int .i64 ((i : Nat) : Int)), (105, .slice A n c), (106, .int .i64 ((n : Nat) : Int)), (107, .bool true)] (fun f w => wr = w) (by kernel_rfl) (by kernel_rfl) (fun f hf => ?_) ?_ ?_
                · rfl
                · exact ⟨RS.StepE.pure 104 (by kernel_rfl) rfl (fun w => by kernel_rfl) (fun f w h => h),
                    RS.StepE.pure 105 (by kernel_rfl) rfl (fun w => by kernel_rfl) (fun f w h => h),
                    RS.StepE.pure 106 (by kernel_rfl) rfl (fun w => by kernel_rfl) (fun f w h => h),
                    RS.StepE.load 107 (.bool true) (by kernel_rfl) (by kernel_rfl) rfl (fun f w h => h) (fun f w p1 p2 h => n_lss (a := i) (b := n) (r := true) (decide_eq_true (show i < n from by omega)) rfl (by kernel_rfl) (by kernel_rfl)), trivial⟩
                rintro f wx hf rfl
                clear hf
                (try simp only [RS.sets, List.setIfInBounds_toArray, List.set_cons_zero, List.set_cons_succ])
                obtain ⟨ad, ea, -, -, -, -, hx3⟩ := el38 HCF.out HN.out i hin
                subst ea
                have HFN := Aside0.mk (funs_next (C := C) (i := i) (by rw [HN.out]; exact hin))
                obtain ⟨x, hx⟩ : ∃ x, C.getD i z38 = x := ⟨_, rfl⟩
                rw [hx] at hx3 HFN
                have HX := Aside0.mk hx
                clear hx
                cases hf3 : x.f3
                · rw [hf3] at hx3
                  have X3 := Aside0.mk hx3
                  have HF3 := Aside0.mk hf3
                  clear hx3 hf3
                  go_upto_region 24 with (fail)
                  refine RS.wp_textE [(110, .slice (some ad) n c), (111, .int .i64 ((i : Nat) : Int)), (112, .pointer (some (ad.add (i * 4)))), (113, .pointer (some ⟨(ad.add (i * 4)).block, (ad.add (i * 4)).off + 3, none⟩)), (114, .bool false), (115, .bool true)] (fun f wq => Below wf.heap.size wf wq) (by kernel_rfl) (by kernel_rfl) (fun f hf => ?_) ?_ ?_
                  · exact HQ.out
                  · exact ⟨RS.StepE.pure 110 (by kernel_rfl) rfl (fun w => by kernel_rfl) (fun f w h => h),
                      RS.StepE.pure 111 (by kernel_rfl) rfl (fun w => by kernel_rfl) (fun f w h => h),
                      RS.StepE.load 112 (.pointer (some (ad.add (i * 4)))) (by kernel_rfl) (by kernel_rfl) rfl (fun f w h => h) (fun f wq p1 p2 h => idx33 (n := n) (c := c) (i := i) hin rfl (by kernel_rfl) (by kernel_rfl)),
                      RS.StepE.pure 113 (by kernel_rfl) rfl (fun w => by kernel_rfl) (fun f w h => h),
                      RS.StepE.load 114 (.bool false) (by kernel_rfl) (by kernel_rfl) rfl (fun f w h => h) (fun f wq p1 p2 h => ld (d := .bool) Try.underlying4 rfl (pw_cell_below h X3.out) rfl (by kernel_rfl)),
                      RS.StepE.pure 115 (by kernel_rfl) rfl (fun w => by kernel_rfl) (fun f w h => h), trivial⟩
                  rintro f w_ hf hs
                  have HQ2 := Aside0.mk hs
                  clear hf hs
                  (try simp only [RS.sets, List.setIfInBounds_toArray, List.set_cons_zero, List.set_cons_succ])
                  go_wp2_with fail
                  exact ⟨⟨i + 1, by omega, by go_num, by rw [HFN.out, if_neg (by rw [HF3.out]; decide), HQL.out], HQ2.out⟩, by simp [intOf]; omega⟩
                · rw [hf3] at hx3
                  have X3 := Aside0.mk hx3
                  have HF3 := Aside0.mk hf3
                  clear hx3 hf3
                  go_upto_region 24 with (fail)
                  refine RS.wp_textE [(110, .slice (some ad) n c), (111, .int .i64 ((i : Nat) : Int)), (112, .pointer (some (ad.add (i * 4)))), (113, .pointer (some ⟨(ad.add (i * 4)).block, (ad.add (i * 4)).off + 3, none⟩)), (114, .bool true), (115, .bool false)] (fun f wq => Below wf.heap.size wf wq) (by kernel_rfl) (by kernel_rfl) (fun f hf => ?_) ?_ ?_
                  · exact HQ.out
                  · exact ⟨RS.StepE.pure 110 (by kernel_rfl) rfl (fun w => by kernel_rfl) (fun f w h => h),
                      RS.StepE.pure 111 (by kernel_rfl) rfl (fun w => by kernel_rfl) (fun f w h => h),
                      RS.StepE.load 112 (.pointer (some (ad.add (i * 4)))) (by kernel_rfl) (by kernel_rfl) rfl (fun f w h => h) (fun f wq p1 p2 h => idx33 (n := n) (c := c) (i := i) hin rfl (by kernel_rfl) (by kernel_rfl)),
                      RS.StepE.pure 113 (by kernel_rfl) rfl (fun w => by kernel_rfl) (fun f w h => h),
                      RS.StepE.load 114 (.bool true) (by kernel_rfl) (by kernel_rfl) rfl (fun f w h => h) (fun f wq p1 p2 h => ld (d := .bool) Try.underlying4 rfl (pw_cell_below h X3.out) rfl (by kernel_rfl)),
                      RS.StepE.pure 115 (by kernel_rfl) rfl (fun w => by kernel_rfl) (fun f w h => h), trivial⟩
                  rintro f w_ hf hs
                  have HQ2 := Aside0.mk hs
                  clear hf hs
                  (try simp only [RS.sets, List.setIfInBounds_toArray, List.set_cons_zero, List.set_cons_succ])
                  go_upto_region 25 with (fail)
                  refine wp_region_lit ?_
                  refine RS.t1 116 rfl (by kernel_rfl) (.int .i64 ((q : Nat) : Int)) (by kernel_rfl) ?_
                  (try simp only [Act.put, List.setIfInBounds_toArray, List.set_cons_zero, List.set_cons_succ])
                  refine RS.t1 117 rfl (by kernel_rfl) (.int .i64 ((q + 1 : Nat) : Int)) (n_add (by omega) rfl (by kernel_rfl) (by kernel_rfl)) ?_
                  (try simp only [Act.put, List.setIfInBounds_toArray, List.set_cons_zero, List.set_cons_succ])
                  refine RS.t1 10 rfl (by kernel_rfl) (.int .i64 ((q + 1 : Nat) : Int)) (by kernel_rfl) ?_
                  (try simp only [Act.put, List.setIfInBounds_toArray, List.set_cons_zero, List.set_cons_succ])
                  go_upto_region 26 with (fail)
                  refine RS.wp_textE [(13, .int .i64 ((0 : Nat) : Int)), (14, .int .i64 ((0 : Nat) : Int))] (fun f w => w_ = w) (by kernel_rfl) (by kernel_rfl) (fun f hf => ?_) ?_ ?_
                  · rfl
                  · exact ⟨RS.StepE.pure 13 (by kernel_rfl) rfl (fun w => by kernel_rfl) (fun f w h => h),
                      RS.StepE.pure 14 (by kernel_rfl) rfl (fun w => by kernel_rfl) (fun f w h => h), trivial⟩
                  rintro f wx hf rfl
                  clear hf
                  (try simp only [RS.sets, List.setIfInBounds_toArray, List.set_cons_zero, List.set_cons_succ])
                  go_upto_region 27 with (fail)
                  refine RS.wp_textE [(15, .int .i64 ((0 : Nat) : Int))] (fun f w => w_ = w) (by kernel_rfl) (by kernel_rfl) (fun f hf => ?_) ?_ ?_
                  · rfl
                  · exact ⟨RS.StepE.pure 15 (by kernel_rfl) rfl (fun w => by kernel_rfl) (fun f w h => h), trivial⟩
                  rintro f wx hf rfl
                  clear hf
                  (try simp only [RS.sets, List.setIfInBounds_toArray, List.set_cons_zero, List.set_cons_succ])
                  go_upto_region 28 with (fail)
                  go_loopw [13, 15] (fun s t wr => ∃ k : Nat, k ≤ n ∧ t = .int .i64 (k : Int) ∧ s = .int .i64 (((C.take k).countP (fun y => eqS y x) : Nat) : Int) ∧ Below wf.heap.size wf wr) (fun s t _ => ((n : Int) - intOf t).toNat)
                  case atStart => exact ⟨0, Nat.zero_le _, rfl, rfl, HQ2.out⟩
                  case round =>
                    obtain ⟨k, hk, rfl, rfl, hb⟩ := hrel
                    have HK := Aside0.mk hb
                    clear hb
                    obtain ⟨e, he⟩ : ∃ e, (C.take k).countP (fun y => eqS y x) = e := ⟨_, rfl⟩
                    have HE := Aside0.mk he
                    have hel : e ≤ 100 := by rw [← he]; exact Nat.le_trans (countP_le C _ k) (by rw [HN.out]; omega)
                    rw [he]
                    clear he
                    by_cases hkn : k < n
                    · go_upto_region 28 with (fail)
                      refine RS.wp_textE [(118, .int .i64 ((k : Nat) : Int)), (119, .slice (some ad) n c), (120, .int .i64 ((n : Nat) : Int)), (121, .bool true)] (fun f w => wr = w) (by kernel_rfl) (by kernel_rfl) (fun f hf => ?_) ?_ ?_
                      · rfl
                      · exact ⟨RS.StepE.pure 118 (by kernel_rfl) rfl (fun w => by kernel_rfl) (fun f w h => h),
                          RS.StepE.pure 119 (by kernel_rfl) rfl (fun w => by kernel_rfl) (fun f w h => h),
                          RS.StepE.pure 120 (by kernel_rfl) rfl (fun w => by kernel_rfl) (fun f w h => h),
                          RS.StepE.load 121 (.bool true) (by kernel_rfl) (by kernel_rfl) rfl (fun f w h => h) (fun f w p1 p2 h => n_lss (a := k) (b := n) (r := true) (decide_eq_true (show k < n from by omega)) rfl (by kernel_rfl) (by kernel_rfl)), trivial⟩
                      rintro f wx hf rfl
                      clear hf
                      (try simp only [RS.sets, List.setIfInBounds_toArray, List.set_cons_zero, List.set_cons_succ])
                      obtain ⟨y, hy⟩ : ∃ y, C.getD k z38 = y := ⟨_, rfl⟩
                      have HYE := Aside0.mk hy
                      have HNX := Aside0.mk (countP_next (C := C) (p := fun y => eqS y x) (i := k) (by rw [HN.out]; exact hkn))
                      rw [hy, HE.out] at HNX
                      clear hy
                      cases heq : eqS y x
                      · have HQE := Aside0.mk heq
                        clear heq
                        go_upto_region 30 with (fail)
                        refine RS.wp_events (by kernel_rfl) [(124, .slice (some ad) n c), (125, .int .i64 ((k : Nat) : Int)), (126, .pointer (some (ad.add (k * 4)))), (127, .agg (encS y)), (128, .slice (some ad) n c), (129, .int .i64 ((i : Nat) : Int)), (130, .pointer (some (ad.add (i * 4)))), (131, .agg (encS x)), (132, .bool false)] (fun f wq => Below wf.heap.size wf wq) (by kernel_rfl) (by kernel_rfl) (fun f hf => ?_) ?_ ?_
                        · exact bY_ HK.out
                        · exact ⟨RS.StepE.pure 124 (by kernel_rfl) rfl (fun w => by kernel_rfl) (fun f w h => h),
                            RS.StepE.pure 125 (by kernel_rfl) rfl (fun w => by kernel_rfl) (fun f w h => h),
                            RS.StepE.load 126 (.pointer (some (ad.add (k * 4)))) (by kernel_rfl) (by kernel_rfl) rfl (fun f w h => h) (fun f wq p1 p2 h => idx33 (n := n) (c := c) (i := k) hkn rfl (by kernel_rfl) (by kernel_rfl)),
                            RS.StepE.load 127 (.agg (encS y)) (by kernel_rfl) (by kernel_rfl) rfl (fun f w h => h) (fun f wq p1 p2 h => load38 HYE.out (Kd.C_below HCF.out h) HN.out hkn rfl (by kernel_rfl)),
                            RS.StepE.pure 128 (by kernel_rfl) rfl (fun w => by kernel_rfl) (fun f w h => h),
                            RS.StepE.pure 129 (by kernel_rfl) rfl (fun w => by kernel_rfl) (fun f w h => h),
                            RS.StepE.load 130 (.pointer (some (ad.add (i * 4)))) (by kernel_rfl) (by kernel_rfl) rfl (fun f w h => h) (fun f wq p1 p2 h => idx33 (n := n) (c := c) (i := i) hin rfl (by kernel_rfl) (by kernel_rfl)),
                            RS.StepE.load 131 (.agg (encS x)) (by kernel_rfl) (by kernel_rfl) rfl (fun f w h => h) (fun f wq p1 p2 h => load38 HX.out (Kd.C_below HCF.out h) HN.out hin rfl (by kernel_rfl)),
                            RS.StepE.load 132 (.bool false) (by kernel_rfl) (by kernel_rfl) rfl (fun f w h => h) (fun f wq p1 p2 h => (s_eql38 (a := y) (b := x) rfl (by kernel_rfl) (by kernel_rfl)).trans (by rw [HQE.out])), trivial⟩
                        rintro f w_ hf hs
                        have HKb := Aside0.mk hs
                        clear hf hs
                        (try simp only [RS.sets, List.setIfInBounds_toArray, List.set_cons_zero, List.set_cons_succ])
                        go_wp2_with fail
                        exact ⟨⟨k + 1, by omega, by go_num, by rw [HNX.out]; simp [HQE.out], HKb.out⟩, by simp [intOf]; omega⟩
                      · have HQE := Aside0.mk heq
                        clear heq
                        go_upto_region 30 with (fail)
                        refine RS.wp_events (by kernel_rfl) [(124, .slice (some ad) n c), (125, .int .i64 ((k : Nat) : Int)), (126, .pointer (some (ad.add (k * 4)))), (127, .agg (encS y)), (128, .slice (some ad) n c), (129, .int .i64 ((i : Nat) : Int)), (130, .pointer (some (ad.add (i * 4)))), (131, .agg (encS x)), (132, .bool true)] (fun f wq => Below wf.heap.size wf wq) (by kernel_rfl) (by kernel_rfl) (fun f hf => ?_) ?_ ?_
                        · exact bY_ HK.out
                        · exact ⟨RS.StepE.pure 124 (by kernel_rfl) rfl (fun w => by kernel_rfl) (fun f w h => h),
                            RS.StepE.pure 125 (by kernel_rfl) rfl (fun w => by kernel_rfl) (fun f w h => h),
                            RS.StepE.load 126 (.pointer (some (ad.add (k * 4)))) (by kernel_rfl) (by kernel_rfl) rfl (fun f w h => h) (fun f wq p1 p2 h => idx33 (n := n) (c := c) (i := k) hkn rfl (by kernel_rfl) (by kernel_rfl)),
                            RS.StepE.load 127 (.agg (encS y)) (by kernel_rfl) (by kernel_rfl) rfl (fun f w h => h) (fun f wq p1 p2 h => load38 HYE.out (Kd.C_below HCF.out h) HN.out hkn rfl (by kernel_rfl)),
                            RS.StepE.pure 128 (by kernel_rfl) rfl (fun w => by kernel_rfl) (fun f w h => h),
                            RS.StepE.pure 129 (by kernel_rfl) rfl (fun w => by kernel_rfl) (fun f w h => h),
                            RS.StepE.load 130 (.pointer (some (ad.add (i * 4)))) (by kernel_rfl) (by kernel_rfl) rfl (fun f w h => h) (fun f wq p1 p2 h => idx33 (n := n) (c := c) (i := i) hin rfl (by kernel_rfl) (by kernel_rfl)),
                            RS.StepE.load 131 (.agg (encS x)) (by kernel_rfl) (by kernel_rfl) rfl (fun f w h => h) (fun f wq p1 p2 h => load38 HX.out (Kd.C_below HCF.out h) HN.out hin rfl (by kernel_rfl)),
                            RS.StepE.load 132 (.bool true) (by kernel_rfl) (by kernel_rfl) rfl (fun f w h => h) (fun f wq p1 p2 h => (s_eql38 (a := y) (b := x) rfl (by kernel_rfl) (by kernel_rfl)).trans (by rw [HQE.out])), trivial⟩
                        rintro f w_ hf hs
                        have HKb := Aside0.mk hs
                        clear hf hs
                        (try simp only [RS.sets, List.setIfInBounds_toArray, List.set_cons_zero, List.set_cons_succ])
                        go_upto_region 31 with (fail)
                        refine wp_region_lit ?_
                        refine RS.t1 133 rfl (by kernel_rfl) (.int .i64 ((e : Nat) : Int)) (by kernel_rfl) ?_
                        (try simp only [Act.put, List.setIfInBounds_toArray, List.set_cons_zero, List.set_cons_succ])
                        refine RS.t1 134 rfl (by kernel_rfl) (.int .i64 ((e + 1 : Nat) : Int)) (n_add (by omega) rfl (by kernel_rfl) (by kernel_rfl)) ?_
                        (try simp only [Act.put, List.setIfInBounds_toArray, List.set_cons_zero, List.set_cons_succ])
                        refine RS.t1 13 rfl (by kernel_rfl) (.int .i64 ((e + 1 : Nat) : Int)) (by kernel_rfl) ?_
                        (try simp only [Act.put, List.setIfInBounds_toArray, List.set_cons_zero, List.set_cons_succ])
                        go_wp2_with fail
                        exact ⟨⟨k + 1, by omega, by go_num, by rw [HNX.out]; simp [HQE.out], HKb.out⟩, by simp [intOf]; omega⟩
                    · go_upto_region 28 with (fail)
                      refine RS.wp_textE [(118, .int .i64 ((k : Nat) : Int)), (119, .slice (some ad) n c), (120, .int .i64 ((n : Nat) : Int)), (121, .bool false)] (fun f w => wr = w) (by kernel_rfl) (by kernel_rfl) (fun f hf => ?_) ?_ ?_
                      · rfl
                      · exact ⟨RS.StepE.pure 118 (by kernel_rfl) rfl (fun w => by kernel_rfl) (fun f w h => h),
                          RS.StepE.pure 119 (by kernel_rfl) rfl (fun w => by kernel_rfl) (fun f w h => h),
                          RS.StepE.pure 120 (by kernel_rfl) rfl (fun w => by kernel_rfl) (fun f w h => h),
                          RS.StepE.load 121 (.bool false) (by kernel_rfl) (by kernel_rfl) rfl (fun f w h => h) (fun f w p1 p2 h => n_lss (a := k) (b := n) (r := false) (decide_eq_false (show ¬ (k < n) from by omega)) rfl (by kernel_rfl) (by kernel_rfl)), trivial⟩
                      rintro f wx hf rfl
                      clear hf
                      (try simp only [RS.sets, List.setIfInBounds_toArray, List.set_cons_zero, List.set_cons_succ])
                      have H13 := Aside0.mk (show C.countP (fun y => eqS y x) = e by have := HE.out; rwa [List.take_of_length_le (by rw [HN.out]; omega)] at this)
                      clear HE hk hkn
                      obtain ⟨e13, he13⟩ : ∃ z, z = e := ⟨_, rfl⟩
                      subst he13
                      go_upto_region 32 with (fail)
                      refine RS.wp_textE [(16, .int .i64 ((0 : Nat) : Int))] (fun f w => wr = w) (by kernel_rfl) (by kernel_rfl) (fun f hf => ?_) ?_ ?_
                      · rfl
                      · exact ⟨RS.StepE.pure 16 (by kernel_rfl) rfl (fun w => by kernel_rfl) (fun f w h => h), trivial⟩
                      rintro f wx hf rfl
                      clear hf
                      (try simp only [RS.sets, List.setIfInBounds_toArray, List.set_cons_zero, List.set_cons_succ])
                      go_upto_region 33 with (fail)
                      go_loopw [14, 16] (fun s t wr => ∃ k : Nat, k ≤ m ∧ t = .int .i64 (k : Int) ∧ s = .int .i64 (((ys.take k).countP (fun y => eqS y x) : Nat) : Int) ∧ Below wf.heap.size wf wr) (fun s t _ => ((m : Int) - intOf t).toNat)
                      case atStart => exact ⟨0, Nat.zero_le _, rfl, rfl, HK.out⟩
                      case round =>
                        obtain ⟨k, hk, rfl, rfl, hb⟩ := hrel
                        have HK3 := Aside0.mk hb
                        clear hb
                        obtain ⟨e, he⟩ : ∃ e, (ys.take k).countP (fun y => eqS y x) = e := ⟨_, rfl⟩
                        have HE := Aside0.mk he
                        have hel : e ≤ 100 := by rw [← he]; exact Nat.le_trans (countP_le ys _ k) (by rw [HM.out]; omega)
                        rw [he]
                        clear he
                        by_cases hkn : k < m
                        · go_upto_region 33 with (fail)
                          refine RS.wp_textE [(135, .int .i64 ((k : Nat) : Int)), (136, .slice A9 m c9), (137, .int .i64 ((m : Nat) : Int)), (138, .bool true)] (fun f w => wr = w) (by kernel_rfl) (by kernel_rfl) (fun f hf => ?_) ?_ ?_
                          · rfl
                          · exact ⟨RS.StepE.pure 135 (by kernel_rfl) rfl (fun w => by kernel_rfl) (fun f w h => h),
                              RS.StepE.pure 136 (by kernel_rfl) rfl (fun w => by kernel_rfl) (fun f w h => h),
                              RS.StepE.pure 137 (by kernel_rfl) rfl (fun w => by kernel_rfl) (fun f w h => h),
                              RS.StepE.load 138 (.bool true) (by kernel_rfl) (by kernel_rfl) rfl (fun f w h => h) (fun f w p1 p2 h => n_lss (a := k) (b := m) (r := true) (decide_eq_true (show k < m from by omega)) rfl (by kernel_rfl) (by kernel_rfl)), trivial⟩
                          rintro f wx hf rfl
                          clear hf
                          (try simp only [RS.sets, List.setIfInBounds_toArray, List.set_cons_zero, List.set_cons_succ])
                          obtain ⟨yd, ey, -⟩ := el38 HY.out HM.out k hkn
                          subst ey
                          obtain ⟨y, hy⟩ : ∃ y, ys.getD k z38 = y := ⟨_, rfl⟩
                          have HYE := Aside0.mk hy
                          have HNX := Aside0.mk (countP_next (C := ys) (p := fun y => eqS y x) (i := k) (by rw [HM.out]; exact hkn))
                          rw [hy, HE.out] at HNX
                          clear hy
                          cases heq : eqS y x
                          · have HQE := Aside0.mk heq
                            clear heq
                            go_upto_region 35 with (fail)
                            refine RS.wp_events (by kernel_rfl) [(141, .slice (some yd) m c9), (142, .int .i64 ((k : Nat) : Int)), (143, .pointer (some (yd.add (k * 4)))), (144, .agg (encS y)), (145, .slice (some ad) n c), (146, .int .i64 ((i : Nat) : Int)), (147, .pointer (some (ad.add (i * 4)))), (148, .agg (encS x)), (149, .bool false)] (fun f wq => Below wf.heap.size wf wq) (by kernel_rfl) (by kernel_rfl) (fun f hf => ?_) ?_ ?_
                            · exact bY_ HK3.out
                            · exact ⟨RS.StepE.pure 141 (by kernel_rfl) rfl (fun w => by kernel_rfl) (fun f w h => h),
                                RS.StepE.pure 142 (by kernel_rfl) rfl (fun w => by kernel_rfl) (fun f w h => h),
                                RS.StepE.load 143 (.pointer (some (yd.add (k * 4)))) (by kernel_rfl) (by kernel_rfl) rfl (fun f w h => h) (fun f wq p1 p2 h => idx33 (n := m) (c := c9) (i := k) hkn rfl (by kernel_rfl) (by kernel_rfl)),
                                RS.StepE.load 144 (.agg (encS y)) (by kernel_rfl) (by kernel_rfl) rfl (fun f w h => h) (fun f wq p1 p2 h => load38 HYE.out (Kd.C_below HY.out h) HM.out hkn rfl (by kernel_rfl)),
                                RS.StepE.pure 145 (by kernel_rfl) rfl (fun w => by kernel_rfl) (fun f w h => h),
                                RS.StepE.pure 146 (by kernel_rfl) rfl (fun w => by kernel_rfl) (fun f w h => h),
                                RS.StepE.load 147 (.pointer (some (ad.add (i * 4)))) (by kernel_rfl) (by kernel_rfl) rfl (fun f w h => h) (fun f wq p1 p2 h => idx33 (n := n) (c := c) (i := i) hin rfl (by kernel_rfl) (by kernel_rfl)),
                                RS.StepE.load 148 (.agg (encS x)) (by kernel_rfl) (by kernel_rfl) rfl (fun f w h => h) (fun f wq p1 p2 h => load38 HX.out (Kd.C_below HCF.out h) HN.out hin rfl (by kernel_rfl)),
                                RS.StepE.load 149 (.bool false) (by kernel_rfl) (by kernel_rfl) rfl (fun f w h => h) (fun f wq p1 p2 h => (s_eql38 (a := y) (b := x) rfl (by kernel_rfl) (by kernel_rfl)).trans (by rw [HQE.out])), trivial⟩
                            rintro f w_ hf hs
                            have HK3b := Aside0.mk hs
                            clear hf hs
                            (try simp only [RS.sets, List.setIfInBounds_toArray, List.set_cons_zero, List.set_cons_succ])
                            go_wp2_with fail
                            exact ⟨⟨k + 1, by omega, by go_num, by rw [HNX.out]; simp [HQE.out], HK3b.out⟩, by simp [intOf]; omega⟩
                          · have HQE := Aside0.mk heq
                            clear heq
                            go_upto_region 35 with (fail)
                            refine RS.wp_events (by kernel_rfl) [(141, .slice (some yd) m c9), (142, .int .i64 ((k : Nat) : Int)), (143, .pointer (some (yd.add (k * 4)))), (144, .agg (encS y)), (145, .slice (some ad) n c), (146, .int .i64 ((i : Nat) : Int)), (147, .pointer (some (ad.add (i * 4)))), (148, .agg (encS x)), (149, .bool true)] (fun f wq => Below wf.heap.size wf wq) (by kernel_rfl) (by kernel_rfl) (fun f hf => ?_) ?_ ?_
                            · exact bY_ HK3.out
                            · exact ⟨RS.StepE.pure 141 (by kernel_rfl) rfl (fun w => by kernel_rfl) (fun f w h => h),
                                RS.StepE.pure 142 (by kernel_rfl) rfl (fun w => by kernel_rfl) (fun f w h => h),
                                RS.StepE.load 143 (.pointer (some (yd.add (k * 4)))) (by kernel_rfl) (by kernel_rfl) rfl (fun f w h => h) (fun f wq p1 p2 h => idx33 (n := m) (c := c9) (i := k) hkn rfl (by kernel_rfl) (by kernel_rfl)),
                                RS.StepE.load 144 (.agg (encS y)) (by kernel_rfl) (by kernel_rfl) rfl (fun f w h => h) (fun f wq p1 p2 h => load38 HYE.out (Kd.C_below HY.out h) HM.out hkn rfl (by kernel_rfl)),
                                RS.StepE.pure 145 (by kernel_rfl) rfl (fun w => by kernel_rfl) (fun f w h => h),
                                RS.StepE.pure 146 (by kernel_rfl) rfl (fun w => by kernel_rfl) (fun f w h => h),
                                RS.StepE.load 147 (.pointer (some (ad.add (i * 4)))) (by kernel_rfl) (by kernel_rfl) rfl (fun f w h => h) (fun f wq p1 p2 h => idx33 (n := n) (c := c) (i := i) hin rfl (by kernel_rfl) (by kernel_rfl)),
                                RS.StepE.load 148 (.agg (encS x)) (by kernel_rfl) (by kernel_rfl) rfl (fun f w h => h) (fun f wq p1 p2 h => load38 HX.out (Kd.C_below HCF.out h) HN.out hin rfl (by kernel_rfl)),
                                RS.StepE.load 149 (.bool true) (by kernel_rfl) (by kernel_rfl) rfl (fun f w h => h) (fun f wq p1 p2 h => (s_eql38 (a := y) (b := x) rfl (by kernel_rfl) (by kernel_rfl)).trans (by rw [HQE.out])), trivial⟩
                            rintro f w_ hf hs
                            have HK3b := Aside0.mk hs
                            clear hf hs
                            (try simp only [RS.sets, List.setIfInBounds_toArray, List.set_cons_zero, List.set_cons_succ])
                            go_upto_region 36 with (fail)
                            refine wp_region_lit ?_
                            refine RS.t1 150 rfl (by kernel_rfl) (.int .i64 ((e : Nat) : Int)) (by kernel_rfl) ?_
                            (try simp only [Act.put, List.setIfInBounds_toArray, List.set_cons_zero, List.set_cons_succ])
                            refine RS.t1 151 rfl (by kernel_rfl) (.int .i64 ((e + 1 : Nat) : Int)) (n_add (by omega) rfl (by kernel_rfl) (by kernel_rfl)) ?_
                            (try simp only [Act.put, List.setIfInBounds_toArray, List.set_cons_zero, List.set_cons_succ])
                            refine RS.t1 14 rfl (by kernel_rfl) (.int .i64 ((e + 1 : Nat) : Int)) (by kernel_rfl) ?_
                            (try simp only [Act.put, List.setIfInBounds_toArray, List.set_cons_zero, List.set_cons_succ])
                            go_wp2_with fail
                            exact ⟨⟨k + 1, by omega, by go_num, by rw [HNX.out]; simp [HQE.out], HK3b.out⟩, by simp [intOf]; omega⟩
                        · go_upto_region 33 with (fail)
                          refine RS.wp_textE [(135, .int .i64 ((k : Nat) : Int)), (136, .slice A9 m c9), (137, .int .i64 ((m : Nat) : Int)), (138, .bool false)] (fun f w => wr = w) (by kernel_rfl) (by kernel_rfl) (fun f hf => ?_) ?_ ?_
                          · rfl
                          · exact ⟨RS.StepE.pure 135 (by kernel_rfl) rfl (fun w => by kernel_rfl) (fun f w h => h),
                              RS.StepE.pure 136 (by kernel_rfl) rfl (fun w => by kernel_rfl) (fun f w h => h),
                              RS.StepE.pure 137 (by kernel_rfl) rfl (fun w => by kernel_rfl) (fun f w h => h),
                              RS.StepE.load 138 (.bool false) (by kernel_rfl) (by kernel_rfl) rfl (fun f w h => h) (fun f w p1 p2 h => n_lss (a := k) (b := m) (r := false) (decide_eq_false (show ¬ (k < m) from by omega)) rfl (by kernel_rfl) (by kernel_rfl)), trivial⟩
                          rintro f wx hf rfl
                          clear hf
                          (try simp only [RS.sets, List.setIfInBounds_toArray, List.set_cons_zero, List.set_cons_succ])
                          have H14 := Aside0.mk (show ys.countP (fun y => eqS y x) = e by have := HE.out; rwa [List.take_of_length_le (by rw [HM.out]; omega)] at this)
                          clear HE hk hkn
                          have hee : e13 = e := by rw [← H13.out, ← H14.out]; exact (count_funs HSS.out HF3.out).symm
                          subst hee
                          go_upto_region 37 with (fail)
                          refine RS.wp_textE [(152, .int .i64 ((e13 : Nat) : Int)), (153, .int .i64 ((e13 : Nat) : Int)), (154, .bool false)] (fun f w => wr = w) (by kernel_rfl) (by kernel_rfl) (fun f hf => ?_) ?_ ?_
                          · rfl
                          · exact ⟨RS.StepE.pure 152 (by kernel_rfl) rfl (fun w => by kernel_rfl) (fun f w h => h),
                              RS.StepE.pure 153 (by kernel_rfl) rfl (fun w => by kernel_rfl) (fun f w h => h),
                              RS.StepE.load 154 (.bool false) (by kernel_rfl) (by kernel_rfl) rfl (fun f w h => h) (fun f w p1 p2 h => n_neq (a := e13) (b := e13) (r := false) (decide_eq_true (show e13 = e13 from by omega)) rfl (by kernel_rfl) (by kernel_rfl)), trivial⟩
                          rintro f wx hf rfl
                          clear hf
                          (try simp only [RS.sets, List.setIfInBounds_toArray, List.set_cons_zero, List.set_cons_succ])
                          go_wp2_with fail
                          exact ⟨⟨i + 1, by omega, by go_num, by rw [HFN.out, if_pos HF3.out, List.length_append, HQL.out]; rfl, HK3.out⟩, by simp [intOf]; omega⟩
              · go_upto_region 22 with (fail)
                refine RS.wp_textE [(104, .int .i64 ((i : Nat) : Int)), (105, .slice A n c), (106, .int .i64 ((n : Nat) : Int)), (107, .bool false)] (fun f w => wr = w) (by kernel_rfl) (by kernel_rfl) (fun f hf => ?_) ?_ ?_
                · rfl
                · exact ⟨RS.StepE.pure 104 (by kernel_rfl) rfl (fun w => by kernel_rfl) (fun f w h => h),
                    RS.StepE.pure 105 (by kernel_rfl) rfl (fun w => by kernel_rfl) (fun f w h => h),
                    RS.StepE.pure 106 (by kernel_rfl) rfl (fun w => by kernel_rfl) (fun f w h => h),
                    RS.StepE.load 107 (.bool false) (by kernel_rfl) (by kernel_rfl) rfl (fun f w h => h) (fun f w p1 p2 h => n_lss (a := i) (b := n) (r := false) (decide_eq_false (show ¬ (i < n) from by omega)) rfl (by kernel_rfl) (by kernel_rfl)), trivial⟩
                rintro f wx hf rfl
                clear hf
                (try simp only [RS.sets, List.setIfInBounds_toArray, List.set_cons_zero, List.set_cons_succ])
                have hqm : q = m := by rw [← HQL.out, List.take_of_length_le (by rw [HN.out]; omega)]; exact HFL.out.symm
                subst hqm
                go_upto_region 39 with (fail)
                refine wp_region_lit ?_
                refine RS.t1 155 rfl (by kernel_rfl) (.slice A9 q c9) (by kernel_rfl) ?_
                (try simp only [Act.put, List.setIfInBounds_toArray, List.set_cons_zero, List.set_cons_succ])
                refine RS.t1 156 rfl (by kernel_rfl) (.int .i64 ((q : Nat) : Int)) (by kernel_rfl) ?_
                (try simp only [Act.put, List.setIfInBounds_toArray, List.set_cons_zero, List.set_cons_succ])
                refine RS.t1 157 rfl (by kernel_rfl) (.int .i64 ((q : Nat) : Int)) (by kernel_rfl) ?_
                (try simp only [Act.put, List.setIfInBounds_toArray, List.set_cons_zero, List.set_cons_succ])
                refine RS.t1 158 rfl (by kernel_rfl) (.bool true) (n_eql (a := q) (b := q) (r := true) (decide_eq_true (show q = q from by omega)) rfl (by kernel_rfl) (by kernel_rfl)) ?_
                (try simp only [Act.put, List.setIfInBounds_toArray, List.set_cons_zero, List.set_cons_succ])
                refine RS.t1 159 rfl (by kernel_rfl) (.bool true) (by kernel_rfl) ?_
                (try simp only [Act.put, List.setIfInBounds_toArray, List.set_cons_zero, List.set_cons_succ])
                refine RS.t1 160 rfl (by kernel_rfl) (.slice A n c) (by kernel_rfl) ?_
                (try simp only [Act.put, List.setIfInBounds_toArray, List.set_cons_zero, List.set_cons_succ])
                refine RS.t1 161 rfl (by kernel_rfl) (.slice A n c) (by kernel_rfl) ?_
                (try simp only [Act.put, List.setIfInBounds_toArray, List.set_cons_zero, List.set_cons_succ])
                refine RS.tC 162 rfl (by kernel_rfl) (show _ = Result.ok (Next.enter 13 #[.slice A n c, .slice A n c]) _ from by kernel_rfl) ?_
                refine (same_self A c n C _ (Kd.C_below HCF.out HQ.out) HN.out (by omega)).mono ?_
                rintro e w18_ ⟨rfl, hb_⟩
                have B19_ := Aside0.mk (below_step HQ.out hb_)
                clear hb_ HQ
                refine ⟨_, rfl, ?_⟩
                (try simp only [Act.put, List.setIfInBounds_toArray, List.set_cons_zero, List.set_cons_succ])
                refine RS.t1 163 rfl (by kernel_rfl) (.bool true) (by kernel_rfl) ?_
                (try simp only [Act.put, List.setIfInBounds_toArray, List.set_cons_zero, List.set_cons_succ])
                refine RS.t1 164 rfl (by kernel_rfl) (.bool true) (by kernel_rfl) ?_
                (try simp only [Act.put, List.setIfInBounds_toArray, List.set_cons_zero, List.set_cons_succ])
                refine RS.tC 165 rfl (by kernel_rfl) (show _ = Result.ok (Next.enter 8 #[]) _ from by kernel_rfl) ?_
                refine (wakes_calls _).mono ?_
                rintro e w20_ ⟨rfl, hb_⟩
                have B21_ := Aside0.mk (below_step B19_.out hb_)
                clear hb_ B19_
                refine ⟨_, rfl, ?_⟩
                (try simp only [Act.put, List.setIfInBounds_toArray, List.set_cons_zero, List.set_cons_succ])
                refine RS.t1 166 rfl (by kernel_rfl) (.bool true) (by kernel_rfl) ?_
                (try simp only [Act.put, List.setIfInBounds_toArray, List.set_cons_zero, List.set_cons_succ])
                refine RS.t1 4 rfl (by kernel_rfl) (.bool true) (by kernel_rfl) ?_
                (try simp only [Act.put, List.setIfInBounds_toArray, List.set_cons_zero, List.set_cons_succ])
                go_wp2_with fail
                go_ret
                exact ⟨rfl, below_step BW.out B21_.out⟩
end Go.Proofs.Ytgdhciilobnelaa.B
