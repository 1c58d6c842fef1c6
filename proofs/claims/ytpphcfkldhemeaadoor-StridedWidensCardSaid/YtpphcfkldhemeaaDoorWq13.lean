/- Sums of sets: both$1, in its five ways. Sets by steps as triples: joined, cut, summed, and what may be said of that. -/
import Derived.Test.YtpphcfkldhemeaaDoorWq12
import Derived.Test.YtpphcfkldhemeaaDoorWq10
namespace Go.Proofs.YtpphcfkldhemeaaDoor.B
open Go.RowKit Go.Proofs.YtpphcfkldhemeaaDoorW.PrintWords Go.Proofs.YtpphcfkldhemeaaDoorW.PrintMore Go.RF
set_option linter.unusedVariables false
set_option linter.unusedSimpArgs false
def BoS (w0 : World) (g0 g1 g2 : Nat) (A B R : Array Value) (w : World) : Prop :=
  w.heap[g0]? = some (.cells A 24 (0, 0)) ∧ w.heap[g1]? = some (.cells B 24 (0, 0)) ∧ w.heap[g2]? = some (.cells R 24 (0, 0)) ∧ Tab w ∧ Below w0.heap.size w0 w
theorem BoS.met {w0 : World} {g0 g1 g2 : Nat} {A B R : Array Value} {w w' : World} (h : BoS w0 g0 g1 g2 A B R w) (hb : Below w.heap.size w w') : BoS w0 g0 g1 g2 A B R w' :=
  ⟨heap_below hb h.1, heap_below hb h.2.1, heap_below hb h.2.2.1, h.2.2.2.1.below hb, below_step h.2.2.2.2 hb⟩
theorem BoS.drew {w0 : World} {g0 g1 g2 : Nat} {A B R : Array Value} {w : World} (h : BoS w0 g0 g1 g2 A B R w) : BoS w0 g0 g1 g2 A B R { w with drawn := w.drawn + 1 } := by
  obtain ⟨h1, h2, h3, h4, h5⟩ := h
  exact ⟨h1, h2, h3, h4, bY_ h5⟩
abbrev Ord3 (n g0 g1 g2 : Nat) : Prop := 0 < n ∧ n ≤ g0 ∧ g0 < g1 ∧ g1 < g2
theorem BoS.set0 {w0 : World} {g0 g1 g2 : Nat} {B R : Array Value} {v0 v1 v2 : Value} {w : World} (h : BoS w0 g0 g1 g2 #[v0, v1, v2] B R w) (hg : Ord3 w0.heap.size g0 g1 g2) (u0 u1 u2 : Value) :
    BoS w0 g0 g1 g2 #[u0, u1, u2] B R (((w.setCell ⟨g0, 0, none⟩ u0).setCell ⟨g0, 1, none⟩ u1).setCell ⟨g0, 2, none⟩ u2) := by
  obtain ⟨h1, h2, h3, h4, h5⟩ := h
  exact ⟨(set3 h1 u0 u1 u2).1, heap_set3 h2 (by omega) _ _ _, heap_set3 h3 (by omega) _ _ _, tab_set3 h4 (by omega) _ _ _, bS_ (bS_ (bS_ h5 (by omega)) (by omega)) (by omega)⟩
theorem BoS.set1 {w0 : World} {g0 g1 g2 : Nat} {A R : Array Value} {v0 v1 v2 : Value} {w : World} (h : BoS w0 g0 g1 g2 A #[v0, v1, v2] R w) (hg : Ord3 w0.heap.size g0 g1 g2) (u0 u1 u2 : Value) :
    BoS w0 g0 g1 g2 A #[u0, u1, u2] R (((w.setCell ⟨g1, 0, none⟩ u0).setCell ⟨g1, 1, none⟩ u1).setCell ⟨g1, 2, none⟩ u2) := by
  obtain ⟨h1, h2, h3, h4, h5⟩ := h
  exact ⟨heap_set3 h1 (by omega) _ _ _, (set3 h2 u0 u1 u2).1, heap_set3 h3 (by omega) _ _ _, tab_set3 h4 (by omega) _ _ _, bS_ (bS_ (bS_ h5 (by omega)) (by omega)) (by omega)⟩
theorem BoS.set2 {w0 : World} {g0 g1 g2 : Nat} {A B : Array Value} {v0 v1 v2 : Value} {w : World} (h : BoS w0 g0 g1 g2 A B #[v0, v1, v2] w) (hg : Ord3 w0.heap.size g0 g1 g2) (u0 u1 u2 : Value) :
    BoS w0 g0 g1 g2 A B #[u0, u1, u2] (((w.setCell ⟨g2, 0, none⟩ u0).setCell ⟨g2, 1, none⟩ u1).setCell ⟨g2, 2, none⟩ u2) := by
  obtain ⟨h1, h2, h3, h4, h5⟩ := h
  exact ⟨heap_set3 h1 (by omega) _ _ _, heap_set3 h2 (by omega) _ _ _, (set3 h3 u0 u1 u2).1, tab_set3 h4 (by omega) _ _ _, bS_ (bS_ (bS_ h5 (by omega)) (by omega)) (by omega)⟩
theorem load_func {W : World} {g f : Nat} {t : TypeId} {l : Array Value} (hu : ∃ d, Tryd.prog.underlying t = some d ∧ (match d with | .struct _ | .array _ _ => false | _ => true) = true) (hb : W.heap[g]? = some (.cells #[.func (.func f) #[] l] t (0, 0))) : (Instr.loadAt t (.pointer (some ⟨g, 0, none⟩))).run Tryd.prog W = .ok (.func (.func f) #[] l) W := by
  have q := (cell_of_block hb).1
  obtain ⟨d, hu, hd⟩ := hu
  have ha : (isAgg t).run Tryd.prog W = .ok false W := by
    unfold isAgg
    rw [Sem.run_bind, run_underlying hu]
    cases d <;> first | rfl | cases hd
  go_simp
theorem results_cell {P : Program} {fn : Func} {p : Tmp} {ty : TypeId} (h : fn.results = #[.cell p ty]) (tmps : Array Value) (w : World) (g : Nat) (t : TypeId) (cs : Array Value) (fr : Nat × Nat) (d : TypeDesc)
    (hp : tmps.getD p undef = .pointer (some ⟨g, 0, none⟩)) (hg : w.heap[g]? = some (.cells cs t fr))
    (hu : P.underlying ty = some d) (hd : (match d with | .struct _ | .array _ _ => true | _ => false) = true) (hi : (P.info? ty).map (·.size) = some cs.size) :
    (results fn tmps).run P w = .ok (.agg cs) w := by
  have hp' : tmps[p]?.getD undef = .pointer (some ⟨g, 0, none⟩) := by simpa using hp
  simp [results, h, hp', asAddr, run_loadVar_row w g t ty cs fr d hg hu hd hi]
theorem none_calls (w : World) : Calls Tryd.prog 26 #[] w fun e w' => e = .returned (setV 0 1 0) ∧ Below w.heap.size w w' := strided_None.calls 0 1 0 w rfl
set_option maxHeartbeats 8000000 in
set_option maxRecDepth 100000 in
theorem add_both_n1 (K1 K2 : Nat) (s1 l1 h1 s2 l2 h2 width d0 d1 d2 : Int) (bw bv bs : Nat) (bx : Nat) (w0 : World) (hT : Tab w0) (hbw : w0.heap[bw]? = some (.cells #[.int .i64 width] 3 (0, 0))) (hbv : w0.heap[bv]? = some (.cells #[.func (.func 33) #[] #[]] 51 (0, 0))) (hbs : w0.heap[bs]? = some (.cells #[.func (.func 34) #[] #[.pointer (some ⟨bx, 0, none⟩)]] 52 (0, 0))) (hbx : w0.heap[bx]? = some (.cells #[.int .i64 width] 3 (0, 0))) (HC : Aside0 (strided_Cut.f K1 s1 l1 h1 width = some (0, 1, 0))) (HD : Aside0 (strided_Cut.f K2 s2 l2 h2 width = some (d0, d1, d2))) :
    Calls Tryd.prog 43 #[setV s1 l1 h1, setV s2 l2 h2, .pointer (some ⟨bw, 0, none⟩), .pointer (some ⟨bv, 0, none⟩), .pointer (some ⟨bs, 0, none⟩)] w0 fun e w' => e = .returned (setV 0 1 0) ∧ Below w0.heap.size w0 w' := by
  have hs0 : BoS w0 w0.heap.size (w0.heap.size + 1) (w0.heap.size + 2) (setC s1 l1 h1) (setC s2 l2 h2) (setC 0 0 0) (((w0.alloc (.cells (setC s1 l1 h1) 24)).alloc (.cells (setC s2 l2 h2) 24)).alloc (.cells (setC 0 0 0) 24)) := by
    have hb : Below w0.heap.size w0 (((w0.alloc (.cells (setC s1 l1 h1) 24)).alloc (.cells (setC s2 l2 h2) 24)).alloc (.cells (setC 0 0 0) 24)) := bX_ (bX_ (bX_ (Below.refl _ _) _) _) _
    have b0 := World.alloc_heap_new w0 (.cells (setC s1 l1 h1) 24)
    have b1 := World.alloc_heap_new (w0.alloc (.cells (setC s1 l1 h1) 24)) (.cells (setC s2 l2 h2) 24)
    have b2 := World.alloc_heap_new ((w0.alloc (.cells (setC s1 l1 h1) 24)).alloc (.cells (setC s2 l2 h2) 24)) (.cells (setC 0 0 0) 24)
    simp only [World.size_alloc] at b1 b2
    exact ⟨(Below.heap_alloc _ _ _ (by simp; omega)).trans ((Below.heap_alloc _ _ _ (by simp)).trans b0), (Below.heap_alloc _ _ _ (by simp)).trans b1, b2, hT.below hb, hb⟩
  have HS := Aside0.mk hs0
  have hlt := hT.lt
  have lw : bw < w0.heap.size := (Array.getElem?_eq_some_iff.1 hbw).1
  have lv : bv < w0.heap.size := (Array.getElem?_eq_some_iff.1 hbv).1
  have ls : bs < w0.heap.size := (Array.getElem?_eq_some_iff.1 hbs).1
  have HBW := Aside0.mk hbw
  have HBV := Aside0.mk hbv
  have HBS := Aside0.mk hbs
  have HBX := Aside0.mk hbx
  clear hbx
  clear hs0 hT hbw hbv hbs
  go_enter Tryd.func43, Tryd.ntmps43
  go_upto_region 1 with (fail)
  generalize ((w0.alloc (.cells (setC s1 l1 h1) 24)).alloc (.cells (setC s2 l2 h2) 24)).alloc (.cells (setC 0 0 0) 24) = w1 at *
  obtain ⟨g0, hg0⟩ : ∃ g, w0.heap.size = g := ⟨_, rfl⟩
  have HG0 := Aside0.mk hg0
  obtain ⟨g1, hg1⟩ : ∃ g, w0.heap.size + 1 = g := ⟨_, rfl⟩
  obtain ⟨g2, hg2⟩ : ∃ g, w0.heap.size + 2 = g := ⟨_, rfl⟩
  have e2 : w0.heap.size + 1 + 1 = g2 := hg2
  (try rw [e2])
  (try rw [hg1])
  (try rw [hg2])
  rw [hg2, hg1, hg0] at HS
  have HG := Aside0.mk (⟨hlt, by omega, by omega, by omega⟩ : Ord3 w0.heap.size g0 g1 g2)
  (try rw [hg0])
  clear hg0 hg1 hg2 e2 hlt
  refine RS.wp_events (by kernel_rfl) [(10, setV s1 l1 h1), (11, .int .i64 width), (12, setV 0 1 0), (13, setV s2 l2 h2), (14, .int .i64 width), (15, setV d0 d1 d2)] (fun f w => BoS w0 g0 g1 g2 (bif f 6 then setC 0 1 0 else setC s1 l1 h1) (bif f 7 then setC d0 d1 d2 else setC s2 l2 h2) (setC 0 0 0) w) (by kernel_rfl) (by kernel_rfl) (fun f hf => ?_) ?_ ?_
  · simp only [hf 6 (by decide), hf 7 (by decide), cond_false]
    exact HS.out.drew
  · exact ⟨RS.StepE.load 10 (setV s1 l1 h1) (by kernel_rfl) (by kernel_rfl) rfl (fun f w h => h) (fun f w p1 p2 h => by
      have e : f 6 = false := p2 6 (by kernel_rfl) (by decide)
      simp only [e, cond_false] at h
      exact run_load rfl (by kernel_rfl) (load_set h.1)),
    RS.StepE.load 11 (.int .i64 width) (by kernel_rfl) (by kernel_rfl) rfl (fun f w h => h) (fun f w p1 p2 h => run_load rfl (by kernel_rfl) (load_num (i := 0) Tryd.underlying3 ((h.2.2.2.2.block bw lw).trans HBW.out) rfl)),
    RS.StepE.call 12 16 #[setV s1 l1 h1, .int .i64 width] (setV 0 1 0) (by kernel_rfl) (by kernel_rfl) rfl (fun w => by kernel_rfl) (fun g w h0 p1 p2 h => (strided_Cut.calls K1 s1 l1 h1 width 0 1 0 w h.2.2.2.1 HC.out).mono (by rintro e w' ⟨rfl, hb⟩; exact ⟨rfl, h.met hb⟩)),
    RS.StepE.load 13 (setV s2 l2 h2) (by kernel_rfl) (by kernel_rfl) rfl (fun f w h => h) (fun f w p1 p2 h => by
      have e : f 7 = false := p2 7 (by kernel_rfl) (by decide)
      simp only [e, cond_false] at h
      exact run_load rfl (by kernel_rfl) (load_set h.2.1)),
    RS.StepE.load 14 (.int .i64 width) (by kernel_rfl) (by kernel_rfl) rfl (fun f w h => h) (fun f w p1 p2 h => run_load rfl (by kernel_rfl) (load_num (i := 0) Tryd.underlying3 ((h.2.2.2.2.block bw lw).trans HBW.out) rfl)),
    RS.StepE.call 15 16 #[setV s2 l2 h2, .int .i64 width] (setV d0 d1 d2) (by kernel_rfl) (by kernel_rfl) rfl (fun w => by kernel_rfl) (fun g w h0 p1 p2 h => (strided_Cut.calls K2 s2 l2 h2 width d0 d1 d2 w h.2.2.2.1 HD.out).mono (by rintro e w' ⟨rfl, hb⟩; exact ⟨rfl, h.met hb⟩)),
    RS.StepE.event (undef) (by intro d hd; cases hd) (by kernel_rfl) (fun g w h0 p1 p2 h => by
      have h0 : g 6 = false := h0
      simp only [h0, cond_false] at h
      refine ⟨_, .inr ⟨run_store_set (g := g0) (s := 0) (l := 1) (h := 0) rfl (by kernel_rfl) (by kernel_rfl) h.1, rfl⟩, ?_⟩
      exact h.set0 HG.out _ _ _),
    RS.StepE.event (undef) (by intro d hd; cases hd) (by kernel_rfl) (fun g w h0 p1 p2 h => by
      have h0 : g 7 = false := h0
      simp only [h0, cond_false] at h
      refine ⟨_, .inr ⟨run_store_set (g := g1) (s := d0) (l := d1) (h := d2) rfl (by kernel_rfl) (by kernel_rfl) h.2.1, rfl⟩, ?_⟩
      exact h.set1 HG.out _ _ _), trivial⟩
  rintro f w2 hf hs
  simp only [hf, cond_true] at hs
  clear HS
  have HS := Aside0.mk hs
  clear hs
  (try simp only [RS.sets, List.setIfInBounds_toArray, List.set_cons_zero, List.set_cons_succ])
  go_upto_region 2 with (fail)
  refine RS.wp_drawn (by kernel_rfl) [(16, setV 0 1 0), (17, setV 0 1 0), (18, .bool true), (19, .bool true), (20, undef), (21, undef), (22, undef), (23, .bool true)] (BoS w0 g0 g1 g2 (setC 0 1 0) (setC d0 d1 d2) (setC 0 0 0)) (by kernel_rfl) (by kernel_rfl) HS.out.drew ?_ ?_
  · exact ⟨RS.StepOK.load 16 (setV 0 1 0) (by kernel_rfl) (by kernel_rfl) rfl (fun w hS => run_load rfl (by kernel_rfl) (load_set hS.1)),
    RS.StepOK.call 17 26 #[] (setV 0 1 0) (by kernel_rfl) (by kernel_rfl) rfl (fun w => by kernel_rfl) (fun w hS => (none_calls w).mono (by rintro e w' ⟨rfl, hb⟩; exact ⟨rfl, hS.met hb⟩)),
    RS.StepOK.load 18 (.bool true) (by kernel_rfl) (by kernel_rfl) rfl (fun w hS => (run_bin rfl (by kernel_rfl) (by kernel_rfl) (by kernel_rfl) (eql_set 0 1 0 0 1 0 w)).trans (by rfl)),
    RS.StepOK.pure 19 (by kernel_rfl) rfl (fun w => by kernel_rfl),
    RS.StepOK.off 20 (by kernel_rfl) rfl (by kernel_rfl),
    RS.StepOK.off 21 (by kernel_rfl) rfl (by kernel_rfl),
    RS.StepOK.off 22 (by kernel_rfl) rfl (by kernel_rfl),
    RS.StepOK.pure 23 (by kernel_rfl) rfl (fun w => by kernel_rfl), trivial⟩
  rintro w3 hs
  clear HS
  have HS := Aside0.mk hs
  clear hs
  (try simp only [RS.sets, List.setIfInBounds_toArray, List.set_cons_zero, List.set_cons_succ])
  have hu24 := Tryd.underlying24
  go_upto_region 3 with (fail)
  go_wp2_with (go_at_call 26; refine (none_calls _).mono ?_; rintro e w4 ⟨rfl, hb⟩; have hs := HS.out.met hb; clear HS; obtain ⟨⟨q0, q1, q2⟩, f0, f1, f2⟩ := rows3 hs.2.2.1; have HS := Aside0.mk hs; clear hs hb)
  have hs := HS.out.set2 HG.out (.int .u64 0) (.int .u64 1) (.int .u64 0)
  have HR := Aside0.mk hs.2.2.1
  have HB := Aside0.mk hs.2.2.2.2
  clear hs
  refine bodyPost_ret (results_cell rfl _ _ g2 24 _ (0, 0) _ rfl HR.out Tryd.underlying24 rfl (by kernel_rfl)) rfl ⟨rfl, HB.out⟩
set_option maxHeartbeats 8000000 in
set_option maxRecDepth 100000 in
theorem add_both_n2 (K1 K2 : Nat) (s1 l1 h1 s2 l2 h2 width c0 c1 c2 : Int) (bw bv bs : Nat) (bx : Nat) (w0 : World) (hT : Tab w0) (hbw : w0.heap[bw]? = some (.cells #[.int .i64 width] 3 (0, 0))) (hbv : w0.heap[bv]? = some (.cells #[.func (.func 33) #[] #[]] 51 (0, 0))) (hbs : w0.heap[bs]? = some (.cells #[.func (.func 34) #[] #[.pointer (some ⟨bx, 0, none⟩)]] 52 (0, 0))) (hbx : w0.heap[bx]? = some (.cells #[.int .i64 width] 3 (0, 0))) (HC : Aside0 (strided_Cut.f K1 s1 l1 h1 width = some (c0, c1, c2))) (HD : Aside0 (strided_Cut.f K2 s2 l2 h2 width = some (0, 1, 0))) (hc : ((c0 : Int) == 0 && (c1 == 1 && (c2 == 0))) = false) :
    Calls Tryd.prog 43 #[setV s1 l1 h1, setV s2 l2 h2, .pointer (some ⟨bw, 0, none⟩), .pointer (some ⟨bv, 0, none⟩), .pointer (some ⟨bs, 0, none⟩)] w0 fun e w' => e = .returned (setV 0 1 0) ∧ Below w0.heap.size w0 w' := by
  have hs0 : BoS w0 w0.heap.size (w0.heap.size + 1) (w0.heap.size + 2) (setC s1 l1 h1) (setC s2 l2 h2) (setC 0 0 0) (((w0.alloc (.cells (setC s1 l1 h1) 24)).alloc (.cells (setC s2 l2 h2) 24)).alloc (.cells (setC 0 0 0) 24)) := by
    have hb : Below w0.heap.size w0 (((w0.alloc (.cells (setC s1 l1 h1) 24)).alloc (.cells (setC s2 l2 h2) 24)).alloc (.cells (setC 0 0 0) 24)) := bX_ (bX_ (bX_ (Below.refl _ _) _) _) _
    have b0 := World.alloc_heap_new w0 (.cells (setC s1 l1 h1) 24)
    have b1 := World.alloc_heap_new (w0.alloc (.cells (setC s1 l1 h1) 24)) (.cells (setC s2 l2 h2) 24)
    have b2 := World.alloc_heap_new ((w0.alloc (.cells (setC s1 l1 h1) 24)).alloc (.cells (setC s2 l2 h2) 24)) (.cells (setC 0 0 0) 24)
    simp only [World.size_alloc] at b1 b2
    exact ⟨(Below.heap_alloc _ _ _ (by simp; omega)).trans ((Below.heap_alloc _ _ _ (by simp)).trans b0), (Below.heap_alloc _ _ _ (by simp)).trans b1, b2, hT.below hb, hb⟩
  have HS := Aside0.mk hs0
  have hlt := hT.lt
  have lw : bw < w0.heap.size := (Array.getElem?_eq_some_iff.1 hbw).1
  have lv : bv < w0.heap.size := (Array.getElem?_eq_some_iff.1 hbv).1
  have ls : bs < w0.heap.size := (Array.getElem?_eq_some_iff.1 hbs).1
  have HBW := Aside0.mk hbw
  have HBV := Aside0.mk hbv
  have HBS := Aside0.mk hbs
  have HBX := Aside0.mk hbx
  clear hbx
  clear hs0 hT hbw hbv hbs
  go_enter Tryd.func43, Tryd.ntmps43
  go_upto_region 1 with (fail)
  generalize ((w0.alloc (.cells (setC s1 l1 h1) 24)).alloc (.cells (setC s2 l2 h2) 24)).alloc (.cells (setC 0 0 0) 24) = w1 at *
  obtain ⟨g0, hg0⟩ : ∃ g, w0.heap.size = g := ⟨_, rfl⟩
  have HG0 := Aside0.mk hg0
  obtain ⟨g1, hg1⟩ : ∃ g, w0.heap.size + 1 = g := ⟨_, rfl⟩
  obtain ⟨g2, hg2⟩ : ∃ g, w0.heap.size + 2 = g := ⟨_, rfl⟩
  have e2 : w0.heap.size + 1 + 1 = g2 := hg2
  (try rw [e2])
  (try rw [hg1])
  (try rw [hg2])
  rw [hg2, hg1, hg0] at HS
  have HG := Aside0.mk (⟨hlt, by omega, by omega, by omega⟩ : Ord3 w0.heap.size g0 g1 g2)
  (try rw [hg0])
  clear hg0 hg1 hg2 e2 hlt
  refine RS.wp_events (by kernel_rfl) [(10, setV s1 l1 h1), (11, .int .i64 width), (12, setV c0 c1 c2), (13, setV s2 l2 h2), (14, .int .i64 width), (15, setV 0 1 0)] (fun f w => BoS w0 g0 g1 g2 (bif f 6 then setC c0 c1 c2 else setC s1 l1 h1) (bif f 7 then setC 0 1 0 else setC s2 l2 h2) (setC 0 0 0) w) (by kernel_rfl) (by kernel_rfl) (fun f hf => ?_) ?_ ?_
  · simp only [hf 6 (by decide), hf 7 (by decide), cond_false]
    exact HS.out.drew
  · exact ⟨RS.StepE.load 10 (setV s1 l1 h1) (by kernel_rfl) (by kernel_rfl) rfl (fun f w h => h) (fun f w p1 p2 h => by
      have e : f 6 = false := p2 6 (by kernel_rfl) (by decide)
      simp only [e, cond_false] at h
      exact run_load rfl (by kernel_rfl) (load_set h.1)),
    RS.StepE.load 11 (.int .i64 width) (by kernel_rfl) (by kernel_rfl) rfl (fun f w h => h) (fun f w p1 p2 h => run_load rfl (by kernel_rfl) (load_num (i := 0) Tryd.underlying3 ((h.2.2.2.2.block bw lw).trans HBW.out) rfl)),
    RS.StepE.call 12 16 #[setV s1 l1 h1, .int .i64 width] (setV c0 c1 c2) (by kernel_rfl) (by kernel_rfl) rfl (fun w => by kernel_rfl) (fun g w h0 p1 p2 h => (strided_Cut.calls K1 s1 l1 h1 width c0 c1 c2 w h.2.2.2.1 HC.out).mono (by rintro e w' ⟨rfl, hb⟩; exact ⟨rfl, h.met hb⟩)),
    RS.StepE.load 13 (setV s2 l2 h2) (by kernel_rfl) (by kernel_rfl) rfl (fun f w h => h) (fun f w p1 p2 h => by
      have e : f 7 = false := p2 7 (by kernel_rfl) (by decide)
      simp only [e, cond_false] at h
      exact run_load rfl (by kernel_rfl) (load_set h.2.1)),
    RS.StepE.load 14 (.int .i64 width) (by kernel_rfl) (by kernel_rfl) rfl (fun f w h => h) (fun f w p1 p2 h => run_load rfl (by kernel_rfl) (load_num (i := 0) Tryd.underlying3 ((h.2.2.2.2.block bw lw).trans HBW.out) rfl)),
    RS.StepE.call 15 16 #[setV s2 l2 h2, .int .i64 width] (setV 0 1 0) (by kernel_rfl) (by kernel_rfl) rfl (fun w => by kernel_rfl) (fun g w h0 p1 p2 h => (strided_Cut.calls K2 s2 l2 h2 width 0 1 0 w h.2.2.2.1 HD.out).mono (by rintro e w' ⟨rfl, hb⟩; exact ⟨rfl, h.met hb⟩)),
    RS.StepE.event (undef) (by intro d hd; cases hd) (by kernel_rfl) (fun g w h0 p1 p2 h => by
      have h0 : g 6 = false := h0
      simp only [h0, cond_false] at h
      refine ⟨_, .inr ⟨run_store_set (g := g0) (s := c0) (l := c1) (h := c2) rfl (by kernel_rfl) (by kernel_rfl) h.1, rfl⟩, ?_⟩
      exact h.set0 HG.out _ _ _),
    RS.StepE.event (undef) (by intro d hd; cases hd) (by kernel_rfl) (fun g w h0 p1 p2 h => by
      have h0 : g 7 = false := h0
      simp only [h0, cond_false] at h
      refine ⟨_, .inr ⟨run_store_set (g := g1) (s := 0) (l := 1) (h := 0) rfl (by kernel_rfl) (by kernel_rfl) h.2.1, rfl⟩, ?_⟩
      exact h.set1 HG.out _ _ _), trivial⟩
  rintro f w2 hf hs
  simp only [hf, cond_true] at hs
  clear HS
  have HS := Aside0.mk hs
  clear hs
  (try simp only [RS.sets, List.setIfInBounds_toArray, List.set_cons_zero, List.set_cons_succ])
  go_upto_region 2 with (fail)
  refine RS.wp_drawn (by kernel_rfl) [(16, setV c0 c1 c2), (17, setV 0 1 0), (18, .bool false), (19, .bool false), (20, setV 0 1 0), (21, setV 0 1 0), (22, .bool true), (23, .bool true)] (BoS w0 g0 g1 g2 (setC c0 c1 c2) (setC 0 1 0) (setC 0 0 0)) (by kernel_rfl) (by kernel_rfl) HS.out.drew ?_ ?_
  · exact ⟨RS.StepOK.load 16 (setV c0 c1 c2) (by kernel_rfl) (by kernel_rfl) rfl (fun w hS => run_load rfl (by kernel_rfl) (load_set hS.1)),
    RS.StepOK.call 17 26 #[] (setV 0 1 0) (by kernel_rfl) (by kernel_rfl) rfl (fun w => by kernel_rfl) (fun w hS => (none_calls w).mono (by rintro e w' ⟨rfl, hb⟩; exact ⟨rfl, hS.met hb⟩)),
    RS.StepOK.load 18 (.bool false) (by kernel_rfl) (by kernel_rfl) rfl (fun w hS => (run_bin rfl (by kernel_rfl) (by kernel_rfl) (by kernel_rfl) (eql_set c0 c1 c2 0 1 0 w)).trans (by rw [hc])),
    RS.StepOK.pure 19 (by kernel_rfl) rfl (fun w => by kernel_rfl),
    RS.StepOK.load 20 (setV 0 1 0) (by kernel_rfl) (by kernel_rfl) rfl (fun w hS => run_load rfl (by kernel_rfl) (load_set hS.2.1)),
    RS.StepOK.call 21 26 #[] (setV 0 1 0) (by kernel_rfl) (by kernel_rfl) rfl (fun w => by kernel_rfl) (fun w hS => (none_calls w).mono (by rintro e w' ⟨rfl, hb⟩; exact ⟨rfl, hS.met hb⟩)),
    RS.StepOK.load 22 (.bool true) (by kernel_rfl) (by kernel_rfl) rfl (fun w hS => (run_bin rfl (by kernel_rfl) (by kernel_rfl) (by kernel_rfl) (eql_set 0 1 0 0 1 0 w)).trans (by rfl)),
    RS.StepOK.pure 23 (by kernel_rfl) rfl (fun w => by kernel_rfl), trivial⟩
  rintro w3 hs
  clear HS
  have HS := Aside0.mk hs
  clear hs
  (try simp only [RS.sets, List.setIfInBounds_toArray, List.set_cons_zero, List.set_cons_succ])
  have hu24 := Tryd.underlying24
  go_upto_region 3 with (fail)
  go_wp2_with (go_at_call 26; refine (none_calls _).mono ?_; rintro e w4 ⟨rfl, hb⟩; have hs := HS.out.met hb; clear HS; obtain ⟨⟨q0, q1, q2⟩, f0, f1, f2⟩ := rows3 hs.2.2.1; have HS := Aside0.mk hs; clear hs hb)
  have hs := HS.out.set2 HG.out (.int .u64 0) (.int .u64 1) (.int .u64 0)
  have HR := Aside0.mk hs.2.2.1
  have HB := Aside0.mk hs.2.2.2.2
  clear hs
  refine bodyPost_ret (results_cell rfl _ _ g2 24 _ (0, 0) _ rfl HR.out Tryd.underlying24 rfl (by kernel_rfl)) rfl ⟨rfl, HB.out⟩
set_option maxHeartbeats 8000000 in
set_option maxRecDepth 100000 in
theorem add_both_s (K1 K2 : Nat) (s1 l1 h1 s2 l2 h2 width c1 c2 d1 d2 v : Int) (bw bv bs : Nat) (bx : Nat) (w0 : World) (hT : Tab w0) (hbw : w0.heap[bw]? = some (.cells #[.int .i64 width] 3 (0, 0))) (hbv : w0.heap[bv]? = some (.cells #[.func (.func 33) #[] #[]] 51 (0, 0))) (hbs : w0.heap[bs]? = some (.cells #[.func (.func 34) #[] #[.pointer (some ⟨bx, 0, none⟩)]] 52 (0, 0))) (hbx : w0.heap[bx]? = some (.cells #[.int .i64 width] 3 (0, 0))) (HC : Aside0 (strided_Cut.f K1 s1 l1 h1 width = some (0, c1, c2))) (HD : Aside0 (strided_Cut.f K2 s2 l2 h2 width = some (0, d1, d2))) (hc : ((0 : Int) == 0 && (c1 == 1 && (c2 == 0))) = false) (hd : ((0 : Int) == 0 && (d1 == 1 && (d2 == 0))) = false) (HV : Aside0 (bits_Cut.f (IntKind.u64.wrap (c1 + d1)) width = some v)) :
    Calls Tryd.prog 43 #[setV s1 l1 h1, setV s2 l2 h2, .pointer (some ⟨bw, 0, none⟩), .pointer (some ⟨bv, 0, none⟩), .pointer (some ⟨bs, 0, none⟩)] w0 fun e w' => e = .returned (setV 0 v v) ∧ Below w0.heap.size w0 w' := by
  have hs0 : BoS w0 w0.heap.size (w0.heap.size + 1) (w0.heap.size + 2) (setC s1 l1 h1) (setC s2 l2 h2) (setC 0 0 0) (((w0.alloc (.cells (setC s1 l1 h1) 24)).alloc (.cells (setC s2 l2 h2) 24)).alloc (.cells (setC 0 0 0) 24)) := by
    have hb : Below w0.heap.size w0 (((w0.alloc (.cells (setC s1 l1 h1) 24)).alloc (.cells (setC s2 l2 h2) 24)).alloc (.cells (setC 0 0 0) 24)) := bX_ (bX_ (bX_ (Below.refl _ _) _) _) _
    have b0 := World.alloc_heap_new w0 (.cells (setC s1 l1 h1) 24)
    have b1 := World.alloc_heap_new (w0.alloc (.cells (setC s1 l1 h1) 24)) (.cells (setC s2 l2 h2) 24)
    have b2 := World.alloc_heap_new ((w0.alloc (.cells (setC s1 l1 h1) 24)).alloc (.cells (setC s2 l2 h2) 24)) (.cells (setC 0 0 0) 24)
    simp only [World.size_alloc] at b1 b2
    exact ⟨(Below.heap_alloc _ _ _ (by simp; omega)).trans ((Below.heap_alloc _ _ _ (by simp)).trans b0), (Below.heap_alloc _ _ _ (by simp)).trans b1, b2, hT.below hb, hb⟩
  have HS := Aside0.mk hs0
  have hlt := hT.lt
  have lw : bw < w0.heap.size := (Array.getElem?_eq_some_iff.1 hbw).1
  have lv : bv < w0.heap.size := (Array.getElem?_eq_some_iff.1 hbv).1
  have ls : bs < w0.heap.size := (Array.getElem?_eq_some_iff.1 hbs).1
  have HBW := Aside0.mk hbw
  have HBV := Aside0.mk hbv
  have HBS := Aside0.mk hbs
  have HBX := Aside0.mk hbx
  clear hbx
  clear hs0 hT hbw hbv hbs
  go_enter Tryd.func43, Tryd.ntmps43
  go_upto_region 1 with (fail)
  generalize ((w0.alloc (.cells (setC s1 l1 h1) 24)).alloc (.cells (setC s2 l2 h2) 24)).alloc (.cells (setC 0 0 0) 24) = w1 at *
  obtain ⟨g0, hg0⟩ : ∃ g, w0.heap.size = g := ⟨_, rfl⟩
  have HG0 := Aside0.mk hg0
  obtain ⟨g1, hg1⟩ : ∃ g, w0.heap.size + 1 = g := ⟨_, rfl⟩
  obtain ⟨g2, hg2⟩ : ∃ g, w0.heap.size + 2 = g := ⟨_, rfl⟩
  have e2 : w0.heap.size + 1 + 1 = g2 := hg2
  (try rw [e2])
  (try rw [hg1])
  (try rw [hg2])
  rw [hg2, hg1, hg0] at HS
  have HG := Aside0.mk (⟨hlt, by omega, by omega, by omega⟩ : Ord3 w0.heap.size g0 g1 g2)
  (try rw [hg0])
  clear hg0 hg1 hg2 e2 hlt
  refine RS.wp_events (by kernel_rfl) [(10, setV s1 l1 h1), (11, .int .i64 width), (12, setV 0 c1 c2), (13, setV s2 l2 h2), (14, .int .i64 width), (15, setV 0 d1 d2)] (fun f w => BoS w0 g0 g1 g2 (bif f 6 then setC 0 c1 c2 else setC s1 l1 h1) (bif f 7 then setC 0 d1 d2 else setC s2 l2 h2) (setC 0 0 0) w) (by kernel_rfl) (by kernel_rfl) (fun f hf => ?_) ?_ ?_
  · simp only [hf 6 (by decide), hf 7 (by decide), cond_false]
    exact HS.out.drew
  · exact ⟨RS.StepE.load 10 (setV s1 l1 h1) (by kernel_rfl) (by kernel_rfl) rfl (fun f w h => h) (fun f w p1 p2 h => by
      have e : f 6 = false := p2 6 (by kernel_rfl) (by decide)
      simp only [e, cond_false] at h
      exact run_load rfl (by kernel_rfl) (load_set h.1)),
    RS.StepE.load 11 (.int .i64 width) (by kernel_rfl) (by kernel_rfl) rfl (fun f w h => h) (fun f w p1 p2 h => run_load rfl (by kernel_rfl) (load_num (i := 0) Tryd.underlying3 ((h.2.2.2.2.block bw lw).trans HBW.out) rfl)),
    RS.StepE.call 12 16 #[setV s1 l1 h1, .int .i64 width] (setV 0 c1 c2) (by kernel_rfl) (by kernel_rfl) rfl (fun w => by kernel_rfl) (fun g w h0 p1 p2 h => (strided_Cut.calls K1 s1 l1 h1 width 0 c1 c2 w h.2.2.2.1 HC.out).mono (by rintro e w' ⟨rfl, hb⟩; exact ⟨rfl, h.met hb⟩)),
    RS.StepE.load 13 (setV s2 l2 h2) (by kernel_rfl) (by kernel_rfl) rfl (fun f w h => h) (fun f w p1 p2 h => by
      have e : f 7 = false := p2 7 (by kernel_rfl) (by decide)
      simp only [e, cond_false] at h
      exact run_load rfl (by kernel_rfl) (load_set h.2.1)),
    RS.StepE.load 14 (.int .i64 width) (by kernel_rfl) (by kernel_rfl) rfl (fun f w h => h) (fun f w p1 p2 h => run_load rfl (by kernel_rfl) (load_num (i := 0) Tryd.underlying3 ((h.2.2.2.2.block bw lw).trans HBW.out) rfl)),
    RS.StepE.call 15 16 #[setV s2 l2 h2, .int .i64 width] (setV 0 d1 d2) (by kernel_rfl) (by kernel_rfl) rfl (fun w => by kernel_rfl) (fun g w h0 p1 p2 h => (strided_Cut.calls K2 s2 l2 h2 width 0 d1 d2 w h.2.2.2.1 HD.out).mono (by rintro e w' ⟨rfl, hb⟩; exact ⟨rfl, h.met hb⟩)),
    RS.StepE.event (undef) (by intro d hd; cases hd) (by kernel_rfl) (fun g w h0 p1 p2 h => by
      have h0 : g 6 = false := h0
      simp only [h0, cond_false] at h
      refine ⟨_, .inr ⟨run_store_set (g := g0) (s := 0) (l := c1) (h := c2) rfl (by kernel_rfl) (by kernel_rfl) h.1, rfl⟩, ?_⟩
      exact h.set0 HG.out _ _ _),
    RS.StepE.event (undef) (by intro d hd; cases hd) (by kernel_rfl) (fun g w h0 p1 p2 h => by
      have h0 : g 7 = false := h0
      simp only [h0, cond_false] at h
      refine ⟨_, .inr ⟨run_store_set (g := g1) (s := 0) (l := d1) (h := d2) rfl (by kernel_rfl) (by kernel_rfl) h.2.1, rfl⟩, ?_⟩
      exact h.set1 HG.out _ _ _), trivial⟩
  rintro f w2 hf hs
  simp only [hf, cond_true] at hs
  clear HS
  have HS := Aside0.mk hs
  clear hs
  (try simp only [RS.sets, List.setIfInBounds_toArray, List.set_cons_zero, List.set_cons_succ])
  go_upto_region 2 with (fail)
  refine RS.wp_drawn (by kernel_rfl) [(16, setV 0 c1 c2), (17, setV 0 1 0), (18, .bool false), (19, .bool false), (20, setV 0 d1 d2), (21, setV 0 1 0), (22, .bool false), (23, .bool false)] (BoS w0 g0 g1 g2 (setC 0 c1 c2) (setC 0 d1 d2) (setC 0 0 0)) (by kernel_rfl) (by kernel_rfl) HS.out.drew ?_ ?_
  · exact ⟨RS.StepOK.load 16 (setV 0 c1 c2) (by kernel_rfl) (by kernel_rfl) rfl (fun w hS => run_load rfl (by kernel_rfl) (load_set hS.1)),
    RS.StepOK.call 17 26 #[] (setV 0 1 0) (by kernel_rfl) (by kernel_rfl) rfl (fun w => by kernel_rfl) (fun w hS => (none_calls w).mono (by rintro e w' ⟨rfl, hb⟩; exact ⟨rfl, hS.met hb⟩)),
    RS.StepOK.load 18 (.bool false) (by kernel_rfl) (by kernel_rfl) rfl (fun w hS => (run_bin rfl (by kernel_rfl) (by kernel_rfl) (by kernel_rfl) (eql_set 0 c1 c2 0 1 0 w)).trans (by rw [hc])),
    RS.StepOK.pure 19 (by kernel_rfl) rfl (fun w => by kernel_rfl),
    RS.StepOK.load 20 (setV 0 d1 d2) (by kernel_rfl) (by kernel_rfl) rfl (fun w hS => run_load rfl (by kernel_rfl) (load_set hS.2.1)),
    RS.StepOK.call 21 26 #[] (setV 0 1 0) (by kernel_rfl) (by kernel_rfl) rfl (fun w => by kernel_rfl) (fun w hS => (none_calls w).mono (by rintro e w' ⟨rfl, hb⟩; exact ⟨rfl, hS.met hb⟩)),
    RS.StepOK.load 22 (.bool false) (by kernel_rfl) (by kernel_rfl) rfl (fun w hS => (run_bin rfl (by kernel_rfl) (by kernel_rfl) (by kernel_rfl) (eql_set 0 d1 d2 0 1 0 w)).trans (by rw [hd])),
    RS.StepOK.pure 23 (by kernel_rfl) rfl (fun w => by kernel_rfl), trivial⟩
  rintro w3 hs
  clear HS
  have HS := Aside0.mk hs
  clear hs
  (try simp only [RS.sets, List.setIfInBounds_toArray, List.set_cons_zero, List.set_cons_succ])
  have hu24 := Tryd.underlying24
  obtain ⟨⟨q0, q1, q2⟩, -⟩ := rows3 HS.out.1
  obtain ⟨⟨q3, q4, q5⟩, -⟩ := rows3 HS.out.2.1
  go_upto_region 5 with (fail)
  clear q0 q1 q2 q3 q4 q5
  refine RS.wp_events (by kernel_rfl) [(33, .func (.func 33) #[] #[]), (34, .pointer (some ⟨g0, 1, none⟩)), (35, .int .u64 c1), (36, .pointer (some ⟨g1, 1, none⟩)), (37, .int .u64 d1), (38, .int .u64 (IntKind.u64.wrap (c1 + d1))), (39, .int .i64 width), (40, .int .u64 v), (41, setV 0 v v)] (fun f w => BoS w0 g0 g1 g2 (setC 0 c1 c2) (setC 0 d1 d2) (bif f 9 then setC 0 v v else setC 0 0 0) w) (by kernel_rfl) (by kernel_rfl) (fun f hf => ?_) ?_ ?_
  · simp only [hf 9 (by decide), cond_false]
    exact HS.out.drew
  · exact ⟨RS.StepE.load 33 (.func (.func 33) #[] #[]) (by kernel_rfl) (by kernel_rfl) rfl (fun f w h => h) (fun f w p1 p2 h => run_load rfl (by kernel_rfl) (load_func ⟨_, Tryd.underlying51, rfl⟩ ((h.2.2.2.2.block bv lv).trans HBV.out))),
    RS.StepE.pure 34 (by kernel_rfl) rfl (fun w => by kernel_rfl) (fun f w h => h),
    RS.StepE.load 35 (.int .u64 c1) (by kernel_rfl) (by kernel_rfl) rfl (fun f w h => h) (fun f w p1 p2 h => run_load rfl (by kernel_rfl) (load_num (i := 1) Tryd.underlying22 h.1 rfl)),
    RS.StepE.pure 36 (by kernel_rfl) rfl (fun w => by kernel_rfl) (fun f w h => h),
    RS.StepE.load 37 (.int .u64 d1) (by kernel_rfl) (by kernel_rfl) rfl (fun f w h => h) (fun f w p1 p2 h => run_load rfl (by kernel_rfl) (load_num (i := 1) Tryd.underlying22 h.2.1 rfl)),
    RS.StepE.call 38 33 #[.int .u64 c1, .int .u64 d1] (.int .u64 (IntKind.u64.wrap (c1 + d1))) (by kernel_rfl) (by kernel_rfl) rfl (fun w => by kernel_rfl) (fun g w h0 p1 p2 h => (add_val c1 d1 w).mono (by rintro e w' ⟨rfl, hb⟩; exact ⟨rfl, h.met hb⟩)),
    RS.StepE.load 39 (.int .i64 width) (by kernel_rfl) (by kernel_rfl) rfl (fun f w h => h) (fun f w p1 p2 h => run_load rfl (by kernel_rfl) (load_num (i := 0) Tryd.underlying3 ((h.2.2.2.2.block bw lw).trans HBW.out) rfl)),
    RS.StepE.call 40 38 #[.int .u64 (IntKind.u64.wrap (c1 + d1)), .int .i64 width] (.int .u64 v) (by kernel_rfl) (by kernel_rfl) rfl (fun w => by kernel_rfl) (fun g w h0 p1 p2 h => (bits_Cut.calls (IntKind.u64.wrap (c1 + d1)) width v w h.2.2.2.1 HV.out).mono (by rintro e w' ⟨rfl, hb⟩; exact ⟨rfl, h.met hb⟩)),
    RS.StepE.call 41 24 #[.int .u64 v] (setV 0 v v) (by kernel_rfl) (by kernel_rfl) rfl (fun w => by kernel_rfl) (fun g w h0 p1 p2 h => (strided_One.calls v 0 v v w rfl).mono (by rintro e w' ⟨rfl, hb⟩; exact ⟨rfl, h.met hb⟩)),
    RS.StepE.event (undef) (by intro d hd; cases hd) (by kernel_rfl) (fun g w h0 p1 p2 h => by
      have h0 : g 9 = false := h0
      simp only [h0, cond_false] at h
      refine ⟨_, .inr ⟨run_store_set (g := g2) (s := 0) (l := v) (h := v) rfl (by kernel_rfl) (by kernel_rfl) h.2.2.1, rfl⟩, ?_⟩
      exact h.set2 HG.out _ _ _), trivial⟩
  rintro f w4 hf hs
  simp only [hf, cond_true] at hs
  clear HS
  have HR := Aside0.mk hs.2.2.1
  have HB := Aside0.mk hs.2.2.2.2
  clear hs
  (try simp only [RS.sets, List.setIfInBounds_toArray, List.set_cons_zero, List.set_cons_succ])
  go_wp2_with fail
  refine bodyPost_ret (results_cell rfl _ _ g2 24 _ (0, 0) _ rfl HR.out Tryd.underlying24 rfl (by kernel_rfl)) rfl ⟨rfl, HB.out⟩
set_option maxHeartbeats 8000000 in
set_option maxRecDepth 100000 in
theorem add_both_t (K1 K2 : Nat) (s1 l1 h1 s2 l2 h2 width c0 c1 c2 d0 d1 d2 r1 r2 r3 : Int) (bw bv bs : Nat) (bx : Nat) (w0 : World) (hT : Tab w0) (hbw : w0.heap[bw]? = some (.cells #[.int .i64 width] 3 (0, 0))) (hbv : w0.heap[bv]? = some (.cells #[.func (.func 33) #[] #[]] 51 (0, 0))) (hbs : w0.heap[bs]? = some (.cells #[.func (.func 34) #[] #[.pointer (some ⟨bx, 0, none⟩)]] 52 (0, 0))) (hbx : w0.heap[bx]? = some (.cells #[.int .i64 width] 3 (0, 0))) (HC : Aside0 (strided_Cut.f K1 s1 l1 h1 width = some (c0, c1, c2))) (HD : Aside0 (strided_Cut.f K2 s2 l2 h2 width = some (d0, d1, d2))) (hc : ((c0 : Int) == 0 && (c1 == 1 && (c2 == 0))) = false) (hd : ((d0 : Int) == 0 && (d1 == 1 && (d2 == 0))) = false) (hz : (c0 == 0) = false ∨ (c0 == 0) = true ∧ (d0 == 0) = false) (hc0 : 0 ≤ c0) (hd0 : 0 ≤ d0) (hof : strided_Of.f (IntKind.u64.wrap (c1 + d1)) (IntKind.u64.wrap (c2 + d2)) (gI c0 d0) = some (r1, r2, r3)) (hok : decide (c2 ≤ IntKind.u64.wrap (maskF width - d2)) = true) :
    Calls Tryd.prog 43 #[setV s1 l1 h1, setV s2 l2 h2, .pointer (some ⟨bw, 0, none⟩), .pointer (some ⟨bv, 0, none⟩), .pointer (some ⟨bs, 0, none⟩)] w0 fun e w' => e = .returned (setV r1 r2 r3) ∧ Below w0.heap.size w0 w' := by
  have hs0 : BoS w0 w0.heap.size (w0.heap.size + 1) (w0.heap.size + 2) (setC s1 l1 h1) (setC s2 l2 h2) (setC 0 0 0) (((w0.alloc (.cells (setC s1 l1 h1) 24)).alloc (.cells (setC s2 l2 h2) 24)).alloc (.cells (setC 0 0 0) 24)) := by
    have hb : Below w0.heap.size w0 (((w0.alloc (.cells (setC s1 l1 h1) 24)).alloc (.cells (setC s2 l2 h2) 24)).alloc (.cells (setC 0 0 0) 24)) := bX_ (bX_ (bX_ (Below.refl _ _) _) _) _
    have b0 := World.alloc_heap_new w0 (.cells (setC s1 l1 h1) 24)
    have b1 := World.alloc_heap_new (w0.alloc (.cells (setC s1 l1 h1) 24)) (.cells (setC s2 l2 h2) 24)
    have b2 := World.alloc_heap_new ((w0.alloc (.cells (setC s1 l1 h1) 24)).alloc (.cells (setC s2 l2 h2) 24)) (.cells (setC 0 0 0) 24)
    simp only [World.size_alloc] at b1 b2
    exact ⟨(Below.heap_alloc _ _ _ (by simp; omega)).trans ((Below.heap_alloc _ _ _ (by simp)).trans b0), (Below.heap_alloc _ _ _ (by simp)).trans b1, b2, hT.below hb, hb⟩
  have HS := Aside0.mk hs0
  have hlt := hT.lt
  have lw : bw < w0.heap.size := (Array.getElem?_eq_some_iff.1 hbw).1
  have lv : bv < w0.heap.size := (Array.getElem?_eq_some_iff.1 hbv).1
  have ls : bs < w0.heap.size := (Array.getElem?_eq_some_iff.1 hbs).1
  have HBW := Aside0.mk hbw
  have HBV := Aside0.mk hbv
  have HBS := Aside0.mk hbs
  have HBX := Aside0.mk hbx
  clear hbx
  have HOF := Aside0.mk hof
  clear hof
  clear hs0 hT hbw hbv hbs
  go_enter Tryd.func43, Tryd.ntmps43
  go_upto_region 1 with (fail)
  generalize ((w0.alloc (.cells (setC s1 l1 h1) 24)).alloc (.cells (setC s2 l2 h2) 24)).alloc (.cells (setC 0 0 0) 24) = w1 at *
  obtain ⟨g0, hg0⟩ : ∃ g, w0.heap.size = g := ⟨_, rfl⟩
  have HG0 := Aside0.mk hg0
  obtain ⟨g1, hg1⟩ : ∃ g, w0.heap.size + 1 = g := ⟨_, rfl⟩
  obtain ⟨g2, hg2⟩ : ∃ g, w0.heap.size + 2 = g := ⟨_, rfl⟩
  have e2 : w0.heap.size + 1 + 1 = g2 := hg2
  (try rw [e2])
  (try rw [hg1])
  (try rw [hg2])
  rw [hg2, hg1, hg0] at HS
  have HG := Aside0.mk (⟨hlt, by omega, by omega, by omega⟩ : Ord3 w0.heap.size g0 g1 g2)
  (try rw [hg0])
  clear hg0 hg1 hg2 e2 hlt
  refine RS.wp_events (by kernel_rfl) [(10, setV s1 l1 h1), (11, .int .i64 width), (12, setV c0 c1 c2), (13, setV s2 l2 h2), (14, .int .i64 width), (15, setV d0 d1 d2)] (fun f w => BoS w0 g0 g1 g2 (bif f 6 then setC c0 c1 c2 else setC s1 l1 h1) (bif f 7 then setC d0 d1 d2 else setC s2 l2 h2) (setC 0 0 0) w) (by kernel_rfl) (by kernel_rfl) (fun f hf => ?_) ?_ ?_
  · simp only [hf 6 (by decide), hf 7 (by decide), cond_false]
    exact HS.out.drew
  · exact ⟨RS.StepE.load 10 (setV s1 l1 h1) (by kernel_rfl) (by kernel_rfl) rfl (fun f w h => h) (fun f w p1 p2 h => by
      have e : f 6 = false := p2 6 (by kernel_rfl) (by decide)
      simp only [e, cond_false] at h
      exact run_load rfl (by kernel_rfl) (load_set h.1)),
    RS.StepE.load 11 (.int .i64 width) (by kernel_rfl) (by kernel_rfl) rfl (fun f w h => h) (fun f w p1 p2 h => run_load rfl (by kernel_rfl) (load_num (i := 0) Tryd.underlying3 ((h.2.2.2.2.block bw lw).trans HBW.out) rfl)),
    RS.StepE.call 12 16 #[setV s1 l1 h1, .int .i64 width] (setV c0 c1 c2) (by kernel_rfl) (by kernel_rfl) rfl (fun w => by kernel_rfl) (fun g w h0 p1 p2 h => (strided_Cut.calls K1 s1 l1 h1 width c0 c1 c2 w h.2.2.2.1 HC.out).mono (by rintro e w' ⟨rfl, hb⟩; exact ⟨rfl, h.met hb⟩)),
    RS.StepE.load 13 (setV s2 l2 h2) (by kernel_rfl) (by kernel_rfl) rfl (fun f w h => h) (fun f w p1 p2 h => by
      have e : f 7 = false := p2 7 (by kernel_rfl) (by decide)
      simp only [e, cond_false] at h
      exact run_load rfl (by kernel_rfl) (load_set h.2.1)),
    RS.StepE.load 14 (.int .i64 width) (by kernel_rfl) (by kernel_rfl) rfl (fun f w h => h) (fun f w p1 p2 h => run_load rfl (by kernel_rfl) (load_num (i := 0) Tryd.underlying3 ((h.2.2.2.2.block bw lw).trans HBW.out) rfl)),
    RS.StepE.call 15 16 #[setV s2 l2 h2, .int .i64 width] (setV d0 d1 d2) (by kernel_rfl) (by kernel_rfl) rfl (fun w => by kernel_rfl) (fun g w h0 p1 p2 h => (strided_Cut.calls K2 s2 l2 h2 width d0 d1 d2 w h.2.2.2.1 HD.out).mono (by rintro e w' ⟨rfl, hb⟩; exact ⟨rfl, h.met hb⟩)),
    RS.StepE.event (undef) (by intro d hd; cases hd) (by kernel_rfl) (fun g w h0 p1 p2 h => by
      have h0 : g 6 = false := h0
      simp only [h0, cond_false] at h
      refine ⟨_, .inr ⟨run_store_set (g := g0) (s := c0) (l := c1) (h := c2) rfl (by kernel_rfl) (by kernel_rfl) h.1, rfl⟩, ?_⟩
      exact h.set0 HG.out _ _ _),
    RS.StepE.event (undef) (by intro d hd; cases hd) (by kernel_rfl) (fun g w h0 p1 p2 h => by
      have h0 : g 7 = false := h0
      simp only [h0, cond_false] at h
      refine ⟨_, .inr ⟨run_store_set (g := g1) (s := d0) (l := d1) (h := d2) rfl (by kernel_rfl) (by kernel_rfl) h.2.1, rfl⟩, ?_⟩
      exact h.set1 HG.out _ _ _), trivial⟩
  rintro f w2 hf hs
  simp only [hf, cond_true] at hs
  clear HS
  have HS := Aside0.mk hs
  clear hs
  (try simp only [RS.sets, List.setIfInBounds_toArray, List.set_cons_zero, List.set_cons_succ])
  go_upto_region 2 with (fail)
  refine RS.wp_drawn (by kernel_rfl) [(16, setV c0 c1 c2), (17, setV 0 1 0), (18, .bool false), (19, .bool false), (20, setV d0 d1 d2), (21, setV 0 1 0), (22, .bool false), (23, .bool false)] (BoS w0 g0 g1 g2 (setC c0 c1 c2) (setC d0 d1 d2) (setC 0 0 0)) (by kernel_rfl) (by kernel_rfl) HS.out.drew ?_ ?_
  · exact ⟨RS.StepOK.load 16 (setV c0 c1 c2) (by kernel_rfl) (by kernel_rfl) rfl (fun w hS => run_load rfl (by kernel_rfl) (load_set hS.1)),
    RS.StepOK.call 17 26 #[] (setV 0 1 0) (by kernel_rfl) (by kernel_rfl) rfl (fun w => by kernel_rfl) (fun w hS => (none_calls w).mono (by rintro e w' ⟨rfl, hb⟩; exact ⟨rfl, hS.met hb⟩)),
    RS.StepOK.load 18 (.bool false) (by kernel_rfl) (by kernel_rfl) rfl (fun w hS => (run_bin rfl (by kernel_rfl) (by kernel_rfl) (by kernel_rfl) (eql_set c0 c1 c2 0 1 0 w)).trans (by rw [hc])),
    RS.StepOK.pure 19 (by kernel_rfl) rfl (fun w => by kernel_rfl),
    RS.StepOK.load 20 (setV d0 d1 d2) (by kernel_rfl) (by kernel_rfl) rfl (fun w hS => run_load rfl (by kernel_rfl) (load_set hS.2.1)),
    RS.StepOK.call 21 26 #[] (setV 0 1 0) (by kernel_rfl) (by kernel_rfl) rfl (fun w => by kernel_rfl) (fun w hS => (none_calls w).mono (by rintro e w' ⟨rfl, hb⟩; exact ⟨rfl, hS.met hb⟩)),
    RS.StepOK.load 22 (.bool false) (by kernel_rfl) (by kernel_rfl) rfl (fun w hS => (run_bin rfl (by kernel_rfl) (by kernel_rfl) (by kernel_rfl) (eql_set d0 d1 d2 0 1 0 w)).trans (by rw [hd])),
    RS.StepOK.pure 23 (by kernel_rfl) rfl (fun w => by kernel_rfl), trivial⟩
  rintro w3 hs
  clear HS
  have HS := Aside0.mk hs
  clear hs
  (try simp only [RS.sets, List.setIfInBounds_toArray, List.set_cons_zero, List.set_cons_succ])
  have hu24 := Tryd.underlying24
  obtain ⟨⟨q0, q1, q2⟩, -⟩ := rows3 HS.out.1
  obtain ⟨⟨q3, q4, q5⟩, -⟩ := rows3 HS.out.2.1
  have q6 := (cell_of_block ((HS.out.2.2.2.2.block bs ls).trans HBS.out)).1
  rcases hz with hz | ⟨hz, hz'⟩
  · go_upto_region 8 with (go_at_call 34; refine (add_sets c0 c1 c2 d0 d1 d2 width r1 r2 r3 bx _ HS.out.2.2.2.1 ((HS.out.2.2.2.2.block bx ((Array.getElem?_eq_some_iff.1 HBX.out).1)).trans HBX.out) hc0 hd0 HOF.out).mono ?_; rw [hok]; rintro e w4 ⟨rfl, hb⟩; have hs := HS.out.met hb; clear HS; have HS := Aside0.mk hs; clear hs hb)
    have hw5 := World.alloc_heap_new w4 (.cells (setC r1 r2 r3) 24)
    have hs5 := HS.out.met (bX_ (Below.refl _ _) (.cells (setC r1 r2 r3) 24))
    generalize w4.alloc (.cells (setC r1 r2 r3) 24) = w5 at *
    generalize w4.heap.size = g4 at *
    clear HS
    have HS := Aside0.mk hs5
    clear hs5 q0 q1 q2 q3 q4 q5 q6
    obtain ⟨⟨q0, q1, q2⟩, f0, f1, f2⟩ := rows3 HS.out.2.2.1
    obtain ⟨⟨q3, q4, q5⟩, -⟩ := rows3 hw5
    clear hw5
    go_wp2_with fail
    have hs := HS.out.set2 HG.out (.int .u64 r1) (.int .u64 r2) (.int .u64 r3)
    have HR := Aside0.mk hs.2.2.1
    have HB := Aside0.mk hs.2.2.2.2
    clear hs
    refine bodyPost_ret (results_cell rfl _ _ g2 24 _ (0, 0) _ rfl HR.out Tryd.underlying24 rfl (by kernel_rfl)) rfl ⟨rfl, HB.out⟩
  · go_upto_region 8 with (go_at_call 34; refine (add_sets c0 c1 c2 d0 d1 d2 width r1 r2 r3 bx _ HS.out.2.2.2.1 ((HS.out.2.2.2.2.block bx ((Array.getElem?_eq_some_iff.1 HBX.out).1)).trans HBX.out) hc0 hd0 HOF.out).mono ?_; rw [hok]; rintro e w4 ⟨rfl, hb⟩; have hs := HS.out.met hb; clear HS; have HS := Aside0.mk hs; clear hs hb)
    have hw5 := World.alloc_heap_new w4 (.cells (setC r1 r2 r3) 24)
    have hs5 := HS.out.met (bX_ (Below.refl _ _) (.cells (setC r1 r2 r3) 24))
    generalize w4.alloc (.cells (setC r1 r2 r3) 24) = w5 at *
    generalize w4.heap.size = g4 at *
    clear HS
    have HS := Aside0.mk hs5
    clear hs5 q0 q1 q2 q3 q4 q5 q6
    obtain ⟨⟨q0, q1, q2⟩, f0, f1, f2⟩ := rows3 HS.out.2.2.1
    obtain ⟨⟨q3, q4, q5⟩, -⟩ := rows3 hw5
    clear hw5
    go_wp2_with fail
    have hs := HS.out.set2 HG.out (.int .u64 r1) (.int .u64 r2) (.int .u64 r3)
    have HR := Aside0.mk hs.2.2.1
    have HB := Aside0.mk hs.2.2.2.2
    clear hs
    refine bodyPost_ret (results_cell rfl _ _ g2 24 _ (0, 0) _ rfl HR.out Tryd.underlying24 rfl (by kernel_rfl)) rfl ⟨rfl, HB.out⟩
set_option maxHeartbeats 8000000 in
set_option maxRecDepth 100000 in
theorem add_both_f (K1 K2 : Nat) (s1 l1 h1 s2 l2 h2 width c0 c1 c2 d0 d1 d2 r1 r2 r3 : Int) (bw bv bs : Nat) (bx : Nat) (w0 : World) (hT : Tab w0) (hbw : w0.heap[bw]? = some (.cells #[.int .i64 width] 3 (0, 0))) (hbv : w0.heap[bv]? = some (.cells #[.func (.func 33) #[] #[]] 51 (0, 0))) (hbs : w0.heap[bs]? = some (.cells #[.func (.func 34) #[] #[.pointer (some ⟨bx, 0, none⟩)]] 52 (0, 0))) (hbx : w0.heap[bx]? = some (.cells #[.int .i64 width] 3 (0, 0))) (HC : Aside0 (strided_Cut.f K1 s1 l1 h1 width = some (c0, c1, c2))) (HD : Aside0 (strided_Cut.f K2 s2 l2 h2 width = some (d0, d1, d2))) (hc : ((c0 : Int) == 0 && (c1 == 1 && (c2 == 0))) = false) (hd : ((d0 : Int) == 0 && (d1 == 1 && (d2 == 0))) = false) (hz : (c0 == 0) = false ∨ (c0 == 0) = true ∧ (d0 == 0) = false) (hc0 : 0 ≤ c0) (hd0 : 0 ≤ d0) (hof : strided_Of.f (IntKind.u64.wrap (c1 + d1)) (IntKind.u64.wrap (c2 + d2)) (gI c0 d0) = some (r1, r2, r3)) (hok : decide (c2 ≤ IntKind.u64.wrap (maskF width - d2)) = false) :
    Calls Tryd.prog 43 #[setV s1 l1 h1, setV s2 l2 h2, .pointer (some ⟨bw, 0, none⟩), .pointer (some ⟨bv, 0, none⟩), .pointer (some ⟨bs, 0, none⟩)] w0 fun e w' => e = .returned (setV 1 0 (maskF width)) ∧ Below w0.heap.size w0 w' := by
  have hs0 : BoS w0 w0.heap.size (w0.heap.size + 1) (w0.heap.size + 2) (setC s1 l1 h1) (setC s2 l2 h2) (setC 0 0 0) (((w0.alloc (.cells (setC s1 l1 h1) 24)).alloc (.cells (setC s2 l2 h2) 24)).alloc (.cells (setC 0 0 0) 24)) := by
    have hb : Below w0.heap.size w0 (((w0.alloc (.cells (setC s1 l1 h1) 24)).alloc (.cells (setC s2 l2 h2) 24)).alloc (.cells (setC 0 0 0) 24)) := bX_ (bX_ (bX_ (Below.refl _ _) _) _) _
    have b0 := World.alloc_heap_new w0 (.cells (setC s1 l1 h1) 24)
    have b1 := World.alloc_heap_new (w0.alloc (.cells (setC s1 l1 h1) 24)) (.cells (setC s2 l2 h2) 24)
    have b2 := World.alloc_heap_new ((w0.alloc (.cells (setC s1 l1 h1) 24)).alloc (.cells (setC s2 l2 h2) 24)) (.cells (setC 0 0 0) 24)
    simp only [World.size_alloc] at b1 b2
    exact ⟨(Below.heap_alloc _ _ _ (by simp; omega)).trans ((Below.heap_alloc _ _ _ (by simp)).trans b0), (Below.heap_alloc _ _ _ (by simp)).trans b1, b2, hT.below hb, hb⟩
  have HS := Aside0.mk hs0
  have hlt := hT.lt
  have lw : bw < w0.heap.size := (Array.getElem?_eq_some_iff.1 hbw).1
  have lv : bv < w0.heap.size := (Array.getElem?_eq_some_iff.1 hbv).1
  have ls : bs < w0.heap.size := (Array.getElem?_eq_some_iff.1 hbs).1
  have HBW := Aside0.mk hbw
  have HBV := Aside0.mk hbv
  have HBS := Aside0.mk hbs
  have HBX := Aside0.mk hbx
  clear hbx
  have HOF := Aside0.mk hof
  clear hof
  clear hs0 hT hbw hbv hbs
  go_enter Tryd.func43, Tryd.ntmps43
  go_upto_region 1 with (fail)
  generalize ((w0.alloc (.cells (setC s1 l1 h1) 24)).alloc (.cells (setC s2 l2 h2) 24)).alloc (.cells (setC 0 0 0) 24) = w1 at *
  obtain ⟨g0, hg0⟩ : ∃ g, w0.heap.size = g := ⟨_, rfl⟩
  have HG0 := Aside0.mk hg0
  obtain ⟨g1, hg1⟩ : ∃ g, w0.heap.size + 1 = g := ⟨_, rfl⟩
  obtain ⟨g2, hg2⟩ : ∃ g, w0.heap.size + 2 = g := ⟨_, rfl⟩
  have e2 : w0.heap.size + 1 + 1 = g2 := hg2
  (try rw [e2])
  (try rw [hg1])
  (try rw [hg2])
  rw [hg2, hg1, hg0] at HS
  have HG := Aside0.mk (⟨hlt, by omega, by omega, by omega⟩ : Ord3 w0.heap.size g0 g1 g2)
  (try rw [hg0])
  clear hg0 hg1 hg2 e2 hlt
  refine RS.wp_events (by kernel_rfl) [(10, setV s1 l1 h1), (11, .int .i64 width), (12, setV c0 c1 c2), (13, setV s2 l2 h2), (14, .int .i64 width), (15, setV d0 d1 d2)] (fun f w => BoS w0 g0 g1 g2 (bif f 6 then setC c0 c1 c2 else setC s1 l1 h1) (bif f 7 then setC d0 d1 d2 else setC s2 l2 h2) (setC 0 0 0) w) (by kernel_rfl) (by kernel_rfl) (fun f hf => ?_) ?_ ?_
  · simp only [hf 6 (by decide), hf 7 (by decide), cond_false]
    exact HS.out.drew
  · exact ⟨RS.StepE.load 10 (setV s1 l1 h1) (by kernel_rfl) (by kernel_rfl) rfl (fun f w h => h) (fun f w p1 p2 h => by
      have e : f 6 = false := p2 6 (by kernel_rfl) (by decide)
      simp only [e, cond_false] at h
      exact run_load rfl (by kernel_rfl) (load_set h.1)),
    RS.StepE.load 11 (.int .i64 width) (by kernel_rfl) (by kernel_rfl) rfl (fun f w h => h) (fun f w p1 p2 h => run_load rfl (by kernel_rfl) (load_num (i := 0) Tryd.underlying3 ((h.2.2.2.2.block bw lw).trans HBW.out) rfl)),
    RS.StepE.call 12 16 #[setV s1 l1 h1, .int .i64 width] (setV c0 c1 c2) (by kernel_rfl) (by kernel_rfl) rfl (fun w => by kernel_rfl) (fun g w h0 p1 p2 h => (strided_Cut.calls K1 s1 l1 h1 width c0 c1 c2 w h.2.2.2.1 HC.out).mono (by rintro e w' ⟨rfl, hb⟩; exact ⟨rfl, h.met hb⟩)),
    RS.StepE.load 13 (setV s2 l2 h2) (by kernel_rfl) (by kernel_rfl) rfl (fun f w h => h) (fun f w p1 p2 h => by
      have e : f 7 = false := p2 7 (by kernel_rfl) (by decide)
      simp only [e, cond_false] at h
      exact run_load rfl (by kernel_rfl) (load_set h.2.1)),
    RS.StepE.load 14 (.int .i64 width) (by kernel_rfl) (by kernel_rfl) rfl (fun f w h => h) (fun f w p1 p2 h => run_load rfl (by kernel_rfl) (load_num (i := 0) Tryd.underlying3 ((h.2.2.2.2.block bw lw).trans HBW.out) rfl)),
    RS.StepE.call 15 16 #[setV s2 l2 h2, .int .i64 width] (setV d0 d1 d2) (by kernel_rfl) (by kernel_rfl) rfl (fun w => by kernel_rfl) (fun g w h0 p1 p2 h => (strided_Cut.calls K2 s2 l2 h2 width d0 d1 d2 w h.2.2.2.1 HD.out).mono (by rintro e w' ⟨rfl, hb⟩; exact ⟨rfl, h.met hb⟩)),
    RS.StepE.event (undef) (by intro d hd; cases hd) (by kernel_rfl) (fun g w h0 p1 p2 h => by
      have h0 : g 6 = false := h0
      simp only [h0, cond_false] at h
      refine ⟨_, .inr ⟨run_store_set (g := g0) (s := c0) (l := c1) (h := c2) rfl (by kernel_rfl) (by kernel_rfl) h.1, rfl⟩, ?_⟩
      exact h.set0 HG.out _ _ _),
    RS.StepE.event (undef) (by intro d hd; cases hd) (by kernel_rfl) (fun g w h0 p1 p2 h => by
      have h0 : g 7 = false := h0
      simp only [h0, cond_false] at h
      refine ⟨_, .inr ⟨run_store_set (g := g1) (s := d0) (l := d1) (h := d2) rfl (by kernel_rfl) (by kernel_rfl) h.2.1, rfl⟩, ?_⟩
      exact h.set1 HG.out _ _ _), trivial⟩
  rintro f w2 hf hs
  simp only [hf, cond_true] at hs
  clear HS
  have HS := Aside0.mk hs
  clear hs
  (try simp only [RS.sets, List.setIfInBounds_toArray, List.set_cons_zero, List.set_cons_succ])
  go_upto_region 2 with (fail)
  refine RS.wp_drawn (by kernel_rfl) [(16, setV c0 c1 c2), (17, setV 0 1 0), (18, .bool false), (19, .bool false), (20, setV d0 d1 d2), (21, setV 0 1 0), (22, .bool false), (23, .bool false)] (BoS w0 g0 g1 g2 (setC c0 c1 c2) (setC d0 d1 d2) (setC 0 0 0)) (by kernel_rfl) (by kernel_rfl) HS.out.drew ?_ ?_
  · exact ⟨RS.StepOK.load 16 (setV c0 c1 c2) (by kernel_rfl) (by kernel_rfl) rfl (fun w hS => run_load rfl (by kernel_rfl) (load_set hS.1)),
    RS.StepOK.call 17 26 #[] (setV 0 1 0) (by kernel_rfl) (by kernel_rfl) rfl (fun w => by kernel_rfl) (fun w hS => (none_calls w).mono (by rintro e w' ⟨rfl, hb⟩; exact ⟨rfl, hS.met hb⟩)),
    RS.StepOK.load 18 (.bool false) (by kernel_rfl) (by kernel_rfl) rfl (fun w hS => (run_bin rfl (by kernel_rfl) (by kernel_rfl) (by kernel_rfl) (eql_set c0 c1 c2 0 1 0 w)).trans (by rw [hc])),
    RS.StepOK.pure 19 (by kernel_rfl) rfl (fun w => by kernel_rfl),
    RS.StepOK.load 20 (setV d0 d1 d2) (by kernel_rfl) (by kernel_rfl) rfl (fun w hS => run_load rfl (by kernel_rfl) (load_set hS.2.1)),
    RS.StepOK.call 21 26 #[] (setV 0 1 0) (by kernel_rfl) (by kernel_rfl) rfl (fun w => by kernel_rfl) (fun w hS => (none_calls w).mono (by rintro e w' ⟨rfl, hb⟩; exact ⟨rfl, hS.met hb⟩)),
    RS.StepOK.load 22 (.bool false) (by kernel_rfl) (by kernel_rfl) rfl (fun w hS => (run_bin rfl (by kernel_rfl) (by kernel_rfl) (by kernel_rfl) (eql_set d0 d1 d2 0 1 0 w)).trans (by rw [hd])),
    RS.StepOK.pure 23 (by kernel_rfl) rfl (fun w => by kernel_rfl), trivial⟩
  rintro w3 hs
  clear HS
  have HS := Aside0.mk hs
  clear hs
  (try simp only [RS.sets, List.setIfInBounds_toArray, List.set_cons_zero, List.set_cons_succ])
  have hu24 := Tryd.underlying24
  obtain ⟨⟨q0, q1, q2⟩, -⟩ := rows3 HS.out.1
  obtain ⟨⟨q3, q4, q5⟩, -⟩ := rows3 HS.out.2.1
  have q6 := (cell_of_block ((HS.out.2.2.2.2.block bs ls).trans HBS.out)).1
  rcases hz with hz | ⟨hz, hz'⟩
  · go_upto_region 9 with (go_at_call 34; refine (add_sets c0 c1 c2 d0 d1 d2 width r1 r2 r3 bx _ HS.out.2.2.2.1 ((HS.out.2.2.2.2.block bx ((Array.getElem?_eq_some_iff.1 HBX.out).1)).trans HBX.out) hc0 hd0 HOF.out).mono ?_; rw [hok]; rintro e w4 ⟨rfl, hb⟩; have hs := HS.out.met hb; clear HS; have HS := Aside0.mk hs; clear hs hb)
    have hw5 := World.alloc_heap_new w4 (.cells (setC r1 r2 r3) 24)
    have hs5 := HS.out.met (bX_ (Below.refl _ _) (.cells (setC r1 r2 r3) 24))
    generalize w4.alloc (.cells (setC r1 r2 r3) 24) = w5 at *
    generalize w4.heap.size = g4 at *
    clear HS
    have HS := Aside0.mk hs5
    clear hs5 q0 q1 q2 q3 q4 q5 q6
    have qw := (cell_of_block ((HS.out.2.2.2.2.block bw lw).trans HBW.out)).1
    clear hw5
    go_wp2_with (go_at_call 39; refine (strided_All.calls width 1 0 (maskF width) _ HS.out.2.2.2.1 rfl).mono ?_; rintro e w6 ⟨rfl, hb⟩; have hs := HS.out.met hb; clear HS; obtain ⟨⟨q0, q1, q2⟩, f0, f1, f2⟩ := rows3 hs.2.2.1; have HS := Aside0.mk hs; clear hs hb)
    have hs := HS.out.set2 HG.out (.int .u64 1) (.int .u64 0) (.int .u64 (maskF width))
    have HR := Aside0.mk hs.2.2.1
    have HB := Aside0.mk hs.2.2.2.2
    clear hs
    refine bodyPost_ret (results_cell rfl _ _ g2 24 _ (0, 0) _ rfl HR.out Tryd.underlying24 rfl (by kernel_rfl)) rfl ⟨rfl, HB.out⟩
  · go_upto_region 9 with (go_at_call 34; refine (add_sets c0 c1 c2 d0 d1 d2 width r1 r2 r3 bx _ HS.out.2.2.2.1 ((HS.out.2.2.2.2.block bx ((Array.getElem?_eq_some_iff.1 HBX.out).1)).trans HBX.out) hc0 hd0 HOF.out).mono ?_; rw [hok]; rintro e w4 ⟨rfl, hb⟩; have hs := HS.out.met hb; clear HS; have HS := Aside0.mk hs; clear hs hb)
    have hw5 := World.alloc_heap_new w4 (.cells (setC r1 r2 r3) 24)
    have hs5 := HS.out.met (bX_ (Below.refl _ _) (.cells (setC r1 r2 r3) 24))
    generalize w4.alloc (.cells (setC r1 r2 r3) 24) = w5 at *
    generalize w4.heap.size = g4 at *
    clear HS
    have HS := Aside0.mk hs5
    clear hs5 q0 q1 q2 q3 q4 q5 q6
    have qw := (cell_of_block ((HS.out.2.2.2.2.block bw lw).trans HBW.out)).1
    clear hw5
    go_wp2_with (go_at_call 39; refine (strided_All.calls width 1 0 (maskF width) _ HS.out.2.2.2.1 rfl).mono ?_; rintro e w6 ⟨rfl, hb⟩; have hs := HS.out.met hb; clear HS; obtain ⟨⟨q0, q1, q2⟩, f0, f1, f2⟩ := rows3 hs.2.2.1; have HS := Aside0.mk hs; clear hs hb)
    have hs := HS.out.set2 HG.out (.int .u64 1) (.int .u64 0) (.int .u64 (maskF width))
    have HR := Aside0.mk hs.2.2.1
    have HB := Aside0.mk hs.2.2.2.2
    clear hs
    refine bodyPost_ret (results_cell rfl _ _ g2 24 _ (0, 0) _ rfl HR.out Tryd.underlying24 rfl (by kernel_rfl)) rfl ⟨rfl, HB.out⟩
end Go.Proofs.YtpphcfkldhemeaaDoor.B
namespace Go.Proofs.YtpphcfkldhemeaaDoor.B
open Go.RowKit
set_option linter.unusedVariables false
set_option linter.unusedSimpArgs false
abbrev T3 := Int × Int × Int
def none3 : T3 := (0, 1, 0)
def SmT (t : T3) : Prop := Sm t.1 t.2.1 t.2.2
def Ok (t : T3) : Prop := t = none3 ∨ SmT t
def noB (t : T3) : Bool := t.1 == 0 && (t.2.1 == 1 && (t.2.2 == 0))
theorem noB_iff {t : T3} : noB t = true ↔ t = none3 := by
  obtain ⟨a, b, c⟩ := t
  simp [noB, none3]
theorem noB_none : noB none3 = true := rfl
theorem SmT.no {t : T3} (h : SmT t) : noB t = false := by
  cases hn : noB t with
  | false => rfl
  | true =>
    rw [noB_iff] at hn
    subst hn
    exact absurd ⟨rfl, rfl, rfl⟩ h.notNo
theorem Ok.sm {t : T3} (h : Ok t) (hn : noB t = false) : SmT t := h.resolve_left fun e => by subst e; cases hn
def inT (a b : T3) : Bool := noB a || (!noB b && decide (inP a.1 a.2.1 a.2.2 b.1 b.2.1 b.2.2))
theorem in_f {a b : T3} (ha : Ok a) (hb : Ok b) : strided_In.f a.1 a.2.1 a.2.2 b.1 b.2.1 b.2.2 = some (inT a b) := by
  unfold inT
  cases hna : noB a with
  | true => rw [noB_iff] at hna; subst hna; exact in_no1 _ _ _
  | false =>
    have ka := ha.sm hna
    cases hnb : noB b with
    | true => rw [noB_iff] at hnb; subst hnb; exact in_no2 ka
    | false => exact in_sm ka (hb.sm hnb)
def joinT (a b : T3) : T3 := if noB a then b else if noB b then a else (jS a.1 a.2.1 b.1 b.2.1, min a.2.1 b.2.1, max a.2.2 b.2.2)
theorem join_f {a b : T3} (ha : Ok a) (hb : Ok b) : ∃ K, strided_Join.f K a.1 a.2.1 a.2.2 b.1 b.2.1 b.2.2 = some (joinT a b) := by
  unfold joinT
  cases hna : noB a with
  | true =>
    rw [noB_iff] at hna; subst hna
    cases hnb : noB b with
    | true => rw [noB_iff] at hnb; subst hnb; exact ⟨0, join_no3 0⟩
    | false => exact ⟨0, join_no1 _ _ _ (hb.sm hnb) 0⟩
  | false =>
    have ka := ha.sm hna
    cases hnb : noB b with
    | true => rw [noB_iff] at hnb; subst hnb; exact ⟨0, join_no2 _ _ _ ka 0⟩
    | false => exact join_sm ka (hb.sm hnb)
theorem join_ok {a b : T3} (ha : Ok a) (hb : Ok b) : Ok (joinT a b) := by
  unfold joinT
  cases hna : noB a with
  | true => exact hb
  | false =>
    cases hnb : noB b with
    | true => exact ha
    | false => exact .inr (join_is (ha.sm hna) (hb.sm hnb))
theorem join_no {a b : T3} (ha : Ok a) (hb : Ok b) (hna : noB a = false) (hnb : noB b = false) : noB (joinT a b) = false := by
  unfold joinT
  rw [hna, hnb]
  exact SmT.no (t := (jS a.1 a.2.1 b.1 b.2.1, min a.2.1 b.2.1, max a.2.2 b.2.2)) (join_is (ha.sm hna) (hb.sm hnb))
theorem inT_refl {a : T3} (ha : Ok a) : inT a a = true := by
  unfold inT
  cases hna : noB a with
  | true => rfl
  | false => simpa using in_refl (ha.sm hna)
theorem inT_iff {a b : T3} : inT a b = true ↔ (noB a = false → noB b = false ∧ inP a.1 a.2.1 a.2.2 b.1 b.2.1 b.2.2) := by
  unfold inT
  cases noB a <;> cases noB b <;> simp
theorem inT_join1 {a b : T3} (ha : Ok a) (hb : Ok b) : inT a (joinT a b) = true := by
  cases hnb : noB b with
  | true =>
    cases hna : noB a with
    | true => rw [inT_iff]; intro h; rw [hna] at h; cases h
    | false => unfold joinT; rw [hna, hnb]; exact inT_refl ha
  | false =>
    rw [inT_iff]
    intro hna
    refine ⟨join_no ha hb hna hnb, ?_⟩
    unfold joinT
    rw [hna, hnb]
    exact in_join1
theorem inT_join2 {a b : T3} (ha : Ok a) (hb : Ok b) : inT b (joinT a b) = true := by
  cases hna : noB a with
  | true => unfold joinT; rw [hna]; exact inT_refl hb
  | false =>
    rw [inT_iff]
    intro hnb
    refine ⟨join_no ha hb hna hnb, ?_⟩
    unfold joinT
    rw [hna, hnb]
    exact in_join2
theorem mask_ok (width : Int) : ∃ k : Nat, maskF width = 2 ^ k - 1 ∧ k ≤ 64 ∧ 8 ≤ k := by
  have h := wideN_lt width
  unfold maskF
  generalize wideN width = n at h
  obtain ⟨h1, h2⟩ := h
  refine ⟨8 * n, ?_, by omega, by omega⟩
  have : n = 1 ∨ n = 2 ∨ n = 3 ∨ n = 4 ∨ n = 5 ∨ n = 6 ∨ n = 7 ∨ n = 8 := by omega
  rcases this with rfl | rfl | rfl | rfl | rfl | rfl | rfl | rfl <;> rfl
end Go.Proofs.YtpphcfkldhemeaaDoor.B
