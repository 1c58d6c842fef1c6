/- NamesErrors walked. -/
import Derived.Test.YtgdhciilobnelaaZe15
import Derived.Test.YtgdhciilobnelaaZe16
namespace Go.Proofs.Ytgdhciilobnelaa.B
open Go.RowKit Go.Lib Go.Proofs.YtgdhciilobnelaaW.PrintWords Go.Proofs.YtgdhciilobnelaaW.PrintLast Go.Proofs.YtgdhciilobnelaaW.PrintMore Go.RF
set_option linter.unusedVariables false
set_option linter.unusedSimpArgs false
attribute [local go_sem] max2_int min2_int max_two min_two
set_option maxHeartbeats 8000000 in
set_option maxRecDepth 100000 in
theorem errors_wakes (A1 : Option Addr) (c1 : Nat) (l : List S41) (each kind link : Int) (w0 : World) (hC : Kd.C k41 w0 A1 l.length l) (hl : l.length ≤ c1) (hg : ∃ k, sundiallaw04_great.f k l = some true) :
    Calls Try.prog 4 #[.slice A1 l.length c1, .int .u64 each, .int .u32 kind, .int .u32 link] w0 fun e w' => e = .returned (.bool true) ∧ Below w0.heap.size w0 w' := by
  obtain ⟨k, hk⟩ := hg
  have HC := Aside0.mk hC
  have HL := Aside0.mk hl
  have HK := Aside0.mk hk
  clear hC hl hk
  go_enter Try.func4, Try.ntmps4
  go_wp2_with (first | (go_at_call 7; refine (sundiallaw04_great.calls k A1 c1 l true _ HC.out HL.out HK.out).mono ?_; rintro e w1 ⟨rfl, hb⟩; have HB1 := Aside0.mk hb.below; clear hb) | (go_at_call 8; refine (wakes_calls _).mono ?_; rintro e w2 ⟨rfl, hb⟩; have HB2 := Aside0.mk (below_step HB1.out hb); clear hb))
  go_ret
  exact ⟨rfl, HB2.out⟩
theorem rep33 (w : World) : Reps (k45.K w) k45.sz (List.replicate 33 z45) (Array.flatten (Array.replicate 33 #[.int .u32 0, .int .u64 0, .int .u64 0, .int .u32 0, .int .u64 0])).toList := by
  have h : ∀ n, Reps (k45.K w) k45.sz (List.replicate n z45) (List.flatten (List.replicate n [Value.int .u32 0, .int .u64 0, .int .u64 0, .int .u32 0, .int .u64 0])) := by
    intro n
    induction n with
    | zero => exact Reps.none _ _
    | succ n ih =>
      have := ih.snoc (k45_mk w z45) rfl
      rw [List.replicate_succ', List.replicate_succ', List.flatten_append]
      simpa [z45] using this
  rw [show (Array.flatten (Array.replicate 33 #[.int .u32 0, .int .u64 0, .int .u64 0, .int .u32 0, .int .u64 0])).toList = List.flatten (List.replicate 33 [Value.int .u32 0, .int .u64 0, .int .u64 0, .int .u32 0, .int .u64 0]) from by kernel_rfl]
  exact h 33
theorem u_add {a b : Nat} {w : World} {o : Oper} {ρ : Operand → Value} {x y : Operand} (hl : a + b < 1000000000) (ho : o.op = .binOp .add 26 x y 26) (hx : ρ x = .int .u64 (a : Int)) (hy : ρ y = .int .u64 (b : Int)) : (execOp ρ o).run Try.prog w = .ok (.value (.int .u64 ((a + b : Nat) : Int))) w := by
  refine run_bin ho hx hy (by rfl) ?_
  have e : IntKind.u64.wrap ((a : Int) + (b : Int)) = ((a + b : Nat) : Int) := by rw [← Int.natCast_add]; exact wrapU (by omega) (by omega)
  simp [binOp, Op.intArith, e]
theorem b_eql {o : Oper} {ρ : Operand → Value} {x y : Operand} {a b r : Bool} {w : World} (h : (a == b) = r) (ho : o.op = .binOp .eql 4 x y 4) (hx : ρ x = .bool a) (hy : ρ y = .bool b) : (execOp ρ o).run Try.prog w = .ok (.value (.bool r)) w := by
  refine run_bin ho hx hy (by rfl) ?_
  subst h
  cases a <;> cases b <;> kernel_rfl
theorem sec_each (l : List S41) (each : Int) (a b c d : Int) : goodN ⟨2, a, b, 2, each⟩ (secsG each 3 2 a b c d) = false ↔ ¬ (each = 24 ∧ b % 24 = 0 ∧ b / 24 ≤ 200) := by
  unfold goodN
  have e1 : decide ((2 : Int) < ((secsG each 3 2 a b c d).length : Int)) = true := rfl
  have e2 : (((secsG each 3 2 a b c d).getD (2 : Int).toNat z45).f0 == 3) = true := rfl
  simp only [e1, e2, Bool.and_true]
  by_cases h1 : each = 24 <;> by_cases h2 : b % 24 = 0 <;> by_cases h3 : b / 24 ≤ 200 <;> simp [h1, h2, h3]
theorem bad_kind (kind : Int) (a b c d : Int) (h : kind ≠ 3) : goodN ⟨2, a, b, 2, 24⟩ (secsG 24 kind 2 a b c d) = false := by
  unfold goodN
  have e2 : (((secsG 24 kind 2 a b c d).getD (2 : Int).toNat z45).f0 == 3) = false := by
    show (kind == 3) = false
    simp [h]
  rw [show (⟨2, a, b, 2, 24⟩ : S45).f3 = 2 from rfl, e2]
  simp
theorem bad_link (link : Int) (a b c d : Int) (h0 : 0 ≤ link) (h : link ≠ 2) : goodN ⟨2, a, b, link, 24⟩ (secsG 24 3 link a b c d) = false := by
  unfold goodN
  by_cases h3 : link < 3
  · have : link = 0 ∨ link = 1 := by omega
    rcases this with rfl | rfl
    · have e2 : (((secsG 24 3 0 a b c d).getD (0 : Int).toNat z45).f0 == 3) = false := rfl
      rw [show (⟨2, a, b, 0, 24⟩ : S45).f3 = 0 from rfl, e2]
      simp
    · have e2 : (((secsG 24 3 1 a b c d).getD (1 : Int).toNat z45).f0 == 3) = false := rfl
      rw [show (⟨2, a, b, 1, 24⟩ : S45).f3 = 1 from rfl, e2]
      simp
  · have e1 : decide (link < ((secsG 24 3 link a b c d).length : Int)) = false := decide_eq_false (by show ¬ link < 3; exact h3)
    rw [show (⟨2, a, b, link, 24⟩ : S45).f3 = link from rfl, e1]
    simp
def errR (l : List S41) (each kind link : Int) (o2 : Int) : Int := (readN (madeB 0 l) (secsG each kind link 0 ((24 * (l.length + 1) : Nat) : Int) o2 ((strP l).length : Int))).2
theorem errR_ok {l : List S41} (hok : ∀ x ∈ l, S41ok x) (hz : ∀ x ∈ l, NoZ x.f0) (h60 : l.length ≤ 60) : errR l 24 3 2 ((0 + 24 * (l.length + 1) : Nat) : Int) = 0 := by
  have h := readN_made (a := 0) (l := l) [] hok hz h60
  rw [List.append_nil, secsM_eq] at h
  unfold errR
  exact congrArg Prod.snd h
theorem errR_each {l : List S41} {each : Int} (h : each ≠ 24) (o2 : Int) : errR l each 3 2 o2 = 32 := by
  unfold errR
  rw [readN_kind ((sec_each l each _ _ _ _).2 (fun h' => h h'.1))]
theorem errR_kind {l : List S41} {kind : Int} (h : kind ≠ 3) (o2 : Int) : errR l 24 kind 2 o2 = 32 := by
  unfold errR
  rw [readN_kind (bad_kind _ _ _ _ _ h)]
theorem errR_link {l : List S41} {link : Int} (h0 : 0 ≤ link) (h : link ≠ 2) (o2 : Int) : errR l 24 3 link o2 = 32 := by
  unfold errR
  rw [readN_kind (bad_link _ _ _ _ _ h0 h)]
theorem errR_place {l : List S41} (h60 : l.length ≤ 60) : errR l 24 3 2 (((madeB 0 l).length + 1 : Nat) : Int) = 33 := by
  unfold errR
  rw [readN_place (by omega) (by omega) (by unfold fits; omega)]
theorem secsG_ok {each kind link o2 : Int} {l : List S41} (hok : ∀ x ∈ l, S41ok x) (h60 : l.length ≤ 60) (he : Rg each) (hk : 0 ≤ kind ∧ kind < 4294967296) (hl : 0 ≤ link ∧ link < 4294967296) (ho : Rg o2) : ∀ s ∈ secsG each kind link 0 ((24 * (l.length + 1) : Nat) : Int) o2 ((strP l).length : Int), Sec45 s := by
  have h1 := strP_le hok
  intro s hs
  unfold secsG at hs
  simp only [List.mem_cons, List.not_mem_nil, or_false] at hs
  unfold Sec45
  rcases hs with rfl | rfl | rfl
  · unfold Rg; decide
  · exact ⟨by show (0 : Int) ≤ 2; decide, by show (2 : Int) < 4294967296; decide, (show Rg 0 from by unfold Rg; decide), ⟨by show (0 : Int) ≤ ((24 * (l.length + 1) : Nat) : Int); omega, by show ((24 * (l.length + 1) : Nat) : Int) < _; omega⟩, hl.1, hl.2, he⟩
  · exact ⟨hk.1, hk.2, ho, ⟨by show (0 : Int) ≤ ((strP l).length : Int); omega, by show ((strP l).length : Int) < _; omega⟩, by show (0 : Int) ≤ 0; decide, by show (0 : Int) < 4294967296; decide, (show Rg 0 from by unfold Rg; decide)⟩
set_option maxHeartbeats 8000000 in
set_option maxRecDepth 100000 in
theorem errors_main (A1 : Option Addr) (c1 : Nat) (l : List S41) (each kind link : Int) (w0 : World) (hC : Kd.C k41 w0 A1 l.length l) (hl : l.length ≤ c1) (hg : ∃ k, sundiallaw04_great.f k l = some false) (h60 : l.length ≤ 60) (hok : ∀ x ∈ l, S41ok x) (hz : ∀ x ∈ l, NoZ x.f0)
    (he : Rg each) (hk : 0 ≤ kind ∧ kind < 4294967296) (hlk : 0 ≤ link ∧ link < 4294967296) :
    Calls Try.prog 4 #[.slice A1 l.length c1, .int .u64 each, .int .u32 kind, .int .u32 link] w0 fun e w' => e = .returned (.bool true) ∧ Below w0.heap.size w0 w' := by
  obtain ⟨k, hkk⟩ := hg
  have HC := Aside0.mk hC
  have HL := Aside0.mk hl
  have HK := Aside0.mk hkk
  have HOK := Aside0.mk hok
  have HZ := Aside0.mk hz
  have HE := Aside0.mk he
  have HKI := Aside0.mk hk
  have HLK := Aside0.mk hlk
  have H60 := Aside0.mk h60
  have hu30 := Aside0.mk Try.underlying30
  have hsl := strP_le hok
  have hml := madeB_len 0 l
  have HML := Aside0.mk (show (madeB 0 l).length ≤ 10000 by omega)
  clear hC hl hkk hok hz he hk hlk hsl hml
  go_enter Try.func4, Try.ntmps4
  go_upto_region 3 with (go_at_call 7; refine (sundiallaw04_great.calls k A1 c1 l false _ HC.out HL.out HK.out).mono ?_; rintro e w1 ⟨rfl, hb⟩; have HB1 := Aside0.mk hb.below; clear hb)
  refine wp_region_lit ?_
  refine RS.t1 29 rfl (by kernel_rfl) (.slice A1 l.length c1) (by kernel_rfl) ?_
  (try simp only [Act.put, List.setIfInBounds_toArray, List.set_cons_zero, List.set_cons_succ])
  refine RS.tC 30 rfl (by kernel_rfl) (show _ = Result.ok (Next.enter 9 #[.int .i64 0, .slice A1 l.length c1]) _ from by kernel_rfl) ?_
  refine (made_calls 0 A1 c1 l.length l w1 (by decide) (Kd.C_below HC.out HB1.out) rfl h60 HOK.out).mono ?_
  rintro e wm ⟨gb, capb, As, c3, rfl, hO, hC, hb3⟩
  have HBM := Aside0.mk (below_step HB1.out hb3)
  have HO := Aside0.mk hO
  have HCS := Aside0.mk hC
  have B0 := Aside0.mk (Below.refl wm.heap.size wm)
  clear hO hC hb3
  refine ⟨_, rfl, ?_⟩
  (try simp only [Act.put, List.setIfInBounds_toArray, List.set_cons_zero, List.set_cons_succ])
  refine RS.t1 28 rfl (by kernel_rfl) (.tuple #[.slice (some ⟨gb, 0, none⟩) (madeB 0 l).length capb, .agg #[.int .u64 0, .int .u64 0, .int .u64 0, .slice none 0 0, .slice As 3 c3]]) (by kernel_rfl) ?_
  (try simp only [Act.put, List.setIfInBounds_toArray, List.set_cons_zero, List.set_cons_succ])
  refine RS.t1 31 rfl (by kernel_rfl) (.slice (some ⟨gb, 0, none⟩) (madeB 0 l).length capb) (by kernel_rfl) ?_
  (try simp only [Act.put, List.setIfInBounds_toArray, List.set_cons_zero, List.set_cons_succ])
  refine RS.t1 32 rfl (by kernel_rfl) (.agg #[.int .u64 0, .int .u64 0, .int .u64 0, .slice none 0 0, .slice As 3 c3]) (by kernel_rfl) ?_
  (try simp only [Act.put, List.setIfInBounds_toArray, List.set_cons_zero, List.set_cons_succ])
  obtain ⟨g10, hg_⟩ : ∃ g_, wm.heap.size = g_ := ⟨_, rfl⟩
  refine RS.tE 10 rfl (by kernel_rfl) (v := .pointer (some ⟨g10, 0, none⟩)) ((show _ = Result.ok (.value (.pointer (some ⟨wm.heap.size, 0, none⟩))) (wm.alloc (.cells #[.int .u64 0, .int .u64 0, .int .u64 0, .slice none 0 0, .slice none 0 0] 30 (0, 0))) from by kernel_rfl).trans (by rw [hg_])) ?_
  obtain ⟨w1_, hw_⟩ : ∃ w_, wm.alloc (.cells #[.int .u64 0, .int .u64 0, .int .u64 0, .slice none 0 0, .slice none 0 0] 30 (0, 0)) = w_ := ⟨_, rfl⟩
  rw [hw_]
  have hb_ : Below wm.heap.size wm w1_ := by rw [← hw_]; exact bX_ (Below.refl _ _) _
  have hn_ : w1_.heap[g10]? = some (.cells #[.int .u64 0, .int .u64 0, .int .u64 0, .slice none 0 0, .slice none 0 0] 30 (0, 0)) := by rw [← hw_, ← hg_]; exact World.alloc_heap_new wm _
  have G2_ := Aside0.mk (show wm.heap.size ≤ g10 from by have := B0.out.size; omega)
  have B3_ := Aside0.mk (below_step B0.out hb_)
  have N4_ := Aside0.mk hn_
  clear hw_ hb_ hn_ hg_ B0
  (try simp only [Act.put, List.setIfInBounds_toArray, List.set_cons_zero, List.set_cons_succ])
  refine RS.t1 9 rfl (by kernel_rfl) (.slice (some ⟨gb, 0, none⟩) (madeB 0 l).length capb) (by kernel_rfl) ?_
  (try simp only [Act.put, List.setIfInBounds_toArray, List.set_cons_zero, List.set_cons_succ])
  refine RS.tS rfl (by kernel_rfl) (run_store_row (g := g10) (cells := #[.int .u64 0, .int .u64 0, .int .u64 0, .slice none 0 0, .slice As 3 c3]) rfl (by kernel_rfl) (by kernel_rfl) N4_.out (by kernel_rfl) rfl (by simp [Value.oneCell'])) ?_
  obtain ⟨w5_, hw_⟩ : ∃ w_, w1_.setRow g10 #[.int .u64 0, .int .u64 0, .int .u64 0, .slice none 0 0, .slice As 3 c3] = w_ := ⟨_, rfl⟩
  rw [hw_]
  have B6_ := Aside0.mk (show Below wm.heap.size wm w5_ from by rw [← hw_]; exact below_setRow B3_.out G2_.out _)
  have N7_ := Aside0.mk (show w5_.heap[g10]? = some (.cells #[.int .u64 0, .int .u64 0, .int .u64 0, .slice none 0 0, .slice As 3 c3] 30 (0, 0)) from by rw [← hw_]; exact setRow_heap w1_ g10 _ _ 30 (0, 0) N4_.out)
  clear hw_ B3_ N4_
  go_upto_region 4 with (fail)
  obtain ⟨ad, ea⟩ : ∃ ad, As = some ad := by
    obtain ⟨ad, e, -⟩ := el45 HCS.out rfl 1 (show 1 < 3 by decide)
    exact ⟨ad, e⟩
  subst ea
  have HAD := Aside0.mk (show Below wm.heap.size wm w5_ from B6_.out)
  refine RS.wp_choice (C := Nat × Nat) (by kernel_rfl) (fun c => (11, (.pointer (some ⟨c.1, 0, none⟩) : Value)) :: (12, (.pointer (some ⟨c.2, 0, none⟩) : Value)) :: [(33, .pointer (some ⟨g10, 4, none⟩)), (34, .slice (some ad) 3 c3), (35, .pointer (some (ad.add (1 * 5)))), (36, .agg (encC ⟨2, 0, ((24 * (l.length + 1) : Nat) : Int), 2, 24⟩)), (37, .pointer (some ⟨g10, 4, none⟩)), (38, .slice (some ad) 3 c3), (39, .pointer (some (ad.add (2 * 5)))), (40, .agg (encC ⟨3, ((0 + 24 * (l.length + 1) : Nat) : Int), ((strP l).length : Int), 0, 0⟩))])
    (fun f c wq => Below w5_.heap.size w5_ wq ∧ (f 8 = true → w5_.heap.size ≤ c.1 ∧ wq.heap[c.1]? = some (.cells (bif f 10 then (encC ⟨2, 0, ((24 * (l.length + 1) : Nat) : Int), 2, 24⟩) else #[.int .u32 0, .int .u64 0, .int .u64 0, .int .u32 0, .int .u64 0]) 45 (0, 0))) ∧ (f 9 = true → w5_.heap.size ≤ c.2 ∧ wq.heap[c.2]? = some (.cells (bif f 11 then (encC ⟨3, ((0 + 24 * (l.length + 1) : Nat) : Int), ((strP l).length : Int), 0, 0⟩) else #[.int .u32 0, .int .u64 0, .int .u64 0, .int .u32 0, .int .u64 0]) 45 (0, 0))) ∧ (f 8 = true → f 9 = true → c.1 ≠ c.2)) (by kernel_rfl) (fun c => by kernel_rfl) (0, 0) (fun f hk => ?_) ?_ ?_
  · exact ⟨bY_ (Below.refl _ _), fun e => (by rw [hk 8 (by decide)] at e; cases e), fun e => (by rw [hk 9 (by decide)] at e; cases e), fun e => (by rw [hk 8 (by decide)] at e; cases e)⟩
  · exact ⟨RS.StepC.of (fun c => RS.StepE.pure 33 (by kernel_rfl) rfl (fun w => by kernel_rfl) (fun f w h => h)),
      RS.StepC.of (fun c => RS.StepE.load 34 (.slice (some ad) 3 c3) (by kernel_rfl) (by kernel_rfl) rfl (fun f w h => h) (fun f wq p1 p2 h => ld (d := .slice 45) Try.underlying28 rfl ((bC_ (heap_below h.1 N7_.out) 4).trans rfl) rfl (by kernel_rfl))),
      RS.StepC.of (fun c => RS.StepE.load 35 (.pointer (some (ad.add (1 * 5)))) (by kernel_rfl) (by kernel_rfl) rfl (fun f w h => h) (fun f wq p1 p2 h => idx28 (n := 3) (c := c3) (i := 1) (by decide) rfl (by kernel_rfl) (by kernel_rfl))),
      RS.StepC.of (fun c => RS.StepE.load 36 (.agg (encC ⟨2, 0, ((24 * (l.length + 1) : Nat) : Int), 2, 24⟩)) (by kernel_rfl) (by kernel_rfl) rfl (fun f w h => h) (fun f wq p1 p2 h => load45 (C := secsM 0 l) (n := 3) (i := 1) rfl (Kd.C_below HCS.out (HAD.out.trans (h.1.mono HAD.out.size))) rfl (by decide) rfl (by kernel_rfl))),
      RS.StepC.of (fun c => RS.StepE.pure 37 (by kernel_rfl) rfl (fun w => by kernel_rfl) (fun f w h => h)),
      RS.StepC.of (fun c => RS.StepE.load 38 (.slice (some ad) 3 c3) (by kernel_rfl) (by kernel_rfl) rfl (fun f w h => h) (fun f wq p1 p2 h => ld (d := .slice 45) Try.underlying28 rfl ((bC_ (heap_below h.1 N7_.out) 4).trans rfl) rfl (by kernel_rfl))),
      RS.StepC.of (fun c => RS.StepE.load 39 (.pointer (some (ad.add (2 * 5)))) (by kernel_rfl) (by kernel_rfl) rfl (fun f w h => h) (fun f wq p1 p2 h => idx28 (n := 3) (c := c3) (i := 2) (by decide) rfl (by kernel_rfl) (by kernel_rfl))),
      RS.StepC.of (fun c => RS.StepE.load 40 (.agg (encC ⟨3, ((0 + 24 * (l.length + 1) : Nat) : Int), ((strP l).length : Int), 0, 0⟩)) (by kernel_rfl) (by kernel_rfl) rfl (fun f w h => h) (fun f wq p1 p2 h => load45 (C := secsM 0 l) (n := 3) (i := 2) rfl (Kd.C_below HCS.out (HAD.out.trans (h.1.mono HAD.out.size))) rfl (by decide) rfl (by kernel_rfl))),
      RS.StepC.choose (fun c => by kernel_rfl) (fun f c wq h0 p1 p2 h => by
        have h0 : f 8 = false := h0
        refine ⟨.pointer (some ⟨wq.heap.size, 0, none⟩), wq.alloc (.cells #[.int .u32 0, .int .u64 0, .int .u64 0, .int .u32 0, .int .u64 0] 45 (0, 0)), (wq.heap.size, c.2), by kernel_rfl, fun d hd => by cases hd; kernel_rfl, RS.agree_mid [] ((12, (.pointer (some ⟨c.2, 0, none⟩) : Value)) :: [(33, .pointer (some ⟨g10, 4, none⟩)), (34, .slice (some ad) 3 c3), (35, .pointer (some (ad.add (1 * 5)))), (36, .agg (encC ⟨2, 0, ((24 * (l.length + 1) : Nat) : Int), 2, 24⟩)), (37, .pointer (some ⟨g10, 4, none⟩)), (38, .slice (some ad) 3 c3), (39, .pointer (some (ad.add (2 * 5)))), (40, .agg (encC ⟨3, ((0 + 24 * (l.length + 1) : Nat) : Int), ((strP l).length : Int), 0, 0⟩))]) (by kernel_rfl) (n := 8) rfl rfl h0, h.1.trans (bX_ (Below.refl _ _) _ |>.mono h.1.size), fun _ => ⟨h.1.size, by rw [show RS.upd f 8 10 = false from p2 10 (by kernel_rfl) (by decide)]; exact World.alloc_heap_new wq _⟩, fun e => ⟨(h.2.2.1 (by simpa [RS.upd] using e)).1, heap_below (bX_ (Below.refl _ _) _) (h.2.2.1 (by simpa [RS.upd] using e)).2⟩, fun _ e hx => by have := blk_lt (h.2.2.1 (by simpa [RS.upd] using e)).2; simp only at hx; omega⟩),
      RS.StepC.choose (fun c => by kernel_rfl) (fun f c wq h0 p1 p2 h => by
        have h0 : f 9 = false := h0
        refine ⟨.pointer (some ⟨wq.heap.size, 0, none⟩), wq.alloc (.cells #[.int .u32 0, .int .u64 0, .int .u64 0, .int .u32 0, .int .u64 0] 45 (0, 0)), (c.1, wq.heap.size), by kernel_rfl, fun d hd => by cases hd; kernel_rfl, RS.agree_mid [(11, (.pointer (some ⟨c.1, 0, none⟩) : Value))] [(33, .pointer (some ⟨g10, 4, none⟩)), (34, .slice (some ad) 3 c3), (35, .pointer (some (ad.add (1 * 5)))), (36, .agg (encC ⟨2, 0, ((24 * (l.length + 1) : Nat) : Int), 2, 24⟩)), (37, .pointer (some ⟨g10, 4, none⟩)), (38, .slice (some ad) 3 c3), (39, .pointer (some (ad.add (2 * 5)))), (40, .agg (encC ⟨3, ((0 + 24 * (l.length + 1) : Nat) : Int), ((strP l).length : Int), 0, 0⟩))] (by kernel_rfl) (n := 9) rfl rfl h0, h.1.trans (bX_ (Below.refl _ _) _ |>.mono h.1.size), fun e => ⟨(h.2.1 (by simpa [RS.upd] using e)).1, heap_below (bX_ (Below.refl _ _) _) (h.2.1 (by simpa [RS.upd] using e)).2⟩, fun _ => ⟨h.1.size, by rw [show RS.upd f 9 11 = false from p2 11 (by kernel_rfl) (by decide)]; exact World.alloc_heap_new wq _⟩, fun e _ hx => by have := blk_lt (h.2.1 (by simpa [RS.upd] using e)).2; simp only at hx; omega⟩),
      RS.StepC.of (fun c => RS.StepE.event undef (by intro d hd; cases hd) (by kernel_rfl) (fun f wq h0 p1 p2 h => by
        have h0 : f 10 = false := h0
        have q := h.2.1 (p1 8 (by kernel_rfl))
        have q' := h.2.2.1 (p1 9 (by kernel_rfl))
        rw [h0] at q
        refine ⟨_, .inr ⟨run_store_row (g := c.1) (cells := (encC ⟨2, 0, ((24 * (l.length + 1) : Nat) : Int), 2, 24⟩)) rfl (by kernel_rfl) (by kernel_rfl) q.2 (by kernel_rfl) rfl (by simp [encC, Value.oneCell']), rfl⟩, below_setRow h.1 q.1 _, fun _ => ⟨q.1, setRow_heap wq c.1 _ _ 45 (0, 0) q.2⟩, fun _ => ⟨q'.1, (setRow_other _ _ _ _ (Ne.symm (h.2.2.2 (p1 8 (by kernel_rfl)) (p1 9 (by kernel_rfl))))).trans q'.2⟩, h.2.2.2⟩)),
      RS.StepC.of (fun c => RS.StepE.event undef (by intro d hd; cases hd) (by kernel_rfl) (fun f wq h0 p1 p2 h => by
        have h0 : f 11 = false := h0
        have q := h.2.2.1 (p1 9 (by kernel_rfl))
        have q' := h.2.1 (p1 8 (by kernel_rfl))
        rw [h0] at q
        refine ⟨_, .inr ⟨run_store_row (g := c.2) (cells := (encC ⟨3, ((0 + 24 * (l.length + 1) : Nat) : Int), ((strP l).length : Int), 0, 0⟩)) rfl (by kernel_rfl) (by kernel_rfl) q.2 (by kernel_rfl) rfl (by simp [encC, Value.oneCell']), rfl⟩, below_setRow h.1 q.1 _, fun _ => ⟨q'.1, (setRow_other _ _ _ _ (h.2.2.2 (p1 8 (by kernel_rfl)) (p1 9 (by kernel_rfl)))).trans q'.2⟩, fun _ => ⟨q.1, setRow_heap wq c.2 _ _ 45 (0, 0) q.2⟩, h.2.2.2⟩)), trivial⟩
  rintro f ⟨g11, g12⟩ wa hk ⟨q1, q2, q3, q4⟩
  have q2 := q2 (hk 8)
  have q3 := q3 (hk 9)
  rw [hk 10, cond_true] at q2
  rw [hk 11, cond_true] at q3
  have BA := Aside0.mk (HAD.out.trans (q1.mono HAD.out.size))
  have NA := Aside0.mk q2.2
  have NB := Aside0.mk q3.2
  have NEA := Aside0.mk (q4 (hk 8) (hk 9))
  have GA := Aside0.mk (Nat.le_trans HAD.out.size q2.1)
  have GB := Aside0.mk (Nat.le_trans HAD.out.size q3.1)
  clear q1 q2 q3 q4 hk
  (try simp only [RS.sets, List.setIfInBounds_toArray, List.set_cons_zero, List.set_cons_succ])
  go_upto_region 5 with (fail)
  refine wp_region_lit ?_
  refine RS.t1 41 rfl (by kernel_rfl) (.agg #[.int .u32 2, .int .u64 0, .int .u64 ((24 * (l.length + 1) : Nat) : Int), .int .u32 2, .int .u64 24]) (load_row (g := g11) NA.out (Try.underlying45) rfl (by kernel_rfl) rfl (by kernel_rfl)) ?_
  (try simp only [Act.put, List.setIfInBounds_toArray, List.set_cons_zero, List.set_cons_succ])
  obtain ⟨g13, hg_⟩ : ∃ g_, wa.heap.size = g_ := ⟨_, rfl⟩
  refine RS.tE 13 rfl (by kernel_rfl) (v := .pointer (some ⟨g13, 0, none⟩)) ((show _ = Result.ok (.value (.pointer (some ⟨wa.heap.size, 0, none⟩))) (wa.alloc (.cells #[.int .u32 0, .int .u64 0, .int .u64 0, .int .u32 0, .int .u64 0] 45 (0, 0))) from by kernel_rfl).trans (by rw [hg_])) ?_
  obtain ⟨w8_, hw_⟩ : ∃ w_, wa.alloc (.cells #[.int .u32 0, .int .u64 0, .int .u64 0, .int .u32 0, .int .u64 0] 45 (0, 0)) = w_ := ⟨_, rfl⟩
  rw [hw_]
  have hb_ : Below wa.heap.size wa w8_ := by rw [← hw_]; exact bX_ (Below.refl _ _) _
  have hn_ : w8_.heap[g13]? = some (.cells #[.int .u32 0, .int .u64 0, .int .u64 0, .int .u32 0, .int .u64 0] 45 (0, 0)) := by rw [← hw_, ← hg_]; exact World.alloc_heap_new wa _
  have E9_ := Aside0.mk (show g11 ≠ g13 from by have := blk_lt NA.out; omega)
  have E10_ := Aside0.mk (show g12 ≠ g13 from by have := blk_lt NB.out; omega)
  have G11_ := Aside0.mk (show wm.heap.size ≤ g13 from by have := BA.out.size; omega)
  have B12_ := Aside0.mk (below_step BA.out hb_)
  have N13_ := Aside0.mk (heap_below hb_ NA.out)
  have N14_ := Aside0.mk (heap_below hb_ NB.out)
  have N15_ := Aside0.mk hn_
  clear hw_ hb_ hn_ hg_ BA NA NB
  (try simp only [Act.put, List.setIfInBounds_toArray, List.set_cons_zero, List.set_cons_succ])
  refine RS.tS rfl (by kernel_rfl) (run_store_row (g := g13) (cells := #[.int .u32 2, .int .u64 0, .int .u64 ((24 * (l.length + 1) : Nat) : Int), .int .u32 2, .int .u64 24]) rfl (by kernel_rfl) (by kernel_rfl) N15_.out (by kernel_rfl) rfl (by simp [Value.oneCell'])) ?_
  obtain ⟨w16_, hw_⟩ : ∃ w_, w8_.setRow g13 #[.int .u32 2, .int .u64 0, .int .u64 ((24 * (l.length + 1) : Nat) : Int), .int .u32 2, .int .u64 24] = w_ := ⟨_, rfl⟩
  rw [hw_]
  have B17_ := Aside0.mk (show Below wm.heap.size wm w16_ from by rw [← hw_]; exact below_setRow B12_.out G11_.out _)
  have N18_ := Aside0.mk (show w16_.heap[g11]? = some (.cells #[.int .u32 2, .int .u64 0, .int .u64 ((24 * (l.length + 1) : Nat) : Int), .int .u32 2, .int .u64 24] 45 (0, 0)) from by rw [← hw_]; exact (setRow_other _ _ _ _ E9_.out).trans N13_.out)
  have N19_ := Aside0.mk (show w16_.heap[g12]? = some (.cells #[.int .u32 3, .int .u64 ((0 + 24 * (l.length + 1) : Nat) : Int), .int .u64 ((strP l).length : Int), .int .u32 0, .int .u64 0] 45 (0, 0)) from by rw [← hw_]; exact (setRow_other _ _ _ _ E10_.out).trans N14_.out)
  have N20_ := Aside0.mk (show w16_.heap[g13]? = some (.cells #[.int .u32 2, .int .u64 0, .int .u64 ((24 * (l.length + 1) : Nat) : Int), .int .u32 2, .int .u64 24] 45 (0, 0)) from by rw [← hw_]; exact setRow_heap w8_ g13 _ _ 45 (0, 0) N15_.out)
  clear hw_ B12_ N13_ N14_ N15_
  go_upto_region 6 with (fail)
  refine wp_region_lit ?_
  refine RS.t1 42 rfl (by kernel_rfl) (.int .u64 each) (by kernel_rfl) ?_
  (try simp only [Act.put, List.setIfInBounds_toArray, List.set_cons_zero, List.set_cons_succ])
  refine RS.t1 43 rfl (by kernel_rfl) (.pointer (some ⟨g13, 4, none⟩)) (by kernel_rfl) ?_
  (try simp only [Act.put, List.setIfInBounds_toArray, List.set_cons_zero, List.set_cons_succ])
  refine RS.tS rfl (by kernel_rfl) (st (ad := ⟨g13, 4, none⟩) (u := .int .u64 24) (v := .int .u64 each) (by kernel_rfl) rfl ((bC_ N20_.out 4).trans rfl) (bF_ N20_.out 4) rfl (by kernel_rfl) (by kernel_rfl)) ?_
  obtain ⟨w21_, hw_⟩ : ∃ w_, w16_.setCell ⟨g13, 4, none⟩ (.int .u64 each) = w_ := ⟨_, rfl⟩
  rw [hw_]
  have B22_ := Aside0.mk (show Below wm.heap.size wm w21_ from by rw [← hw_]; exact B17_.out.trans (((Keeps.refl (fun k => k = g13) w16_).setCell ⟨g13, 4, none⟩ (.int .u64 each) rfl).below B17_.out.size (fun k hk e => by have := G11_.out; omega)))
  have N23_ := Aside0.mk (show w21_.heap[g11]? = some (.cells #[.int .u32 2, .int .u64 0, .int .u64 ((24 * (l.length + 1) : Nat) : Int), .int .u32 2, .int .u64 24] 45 (0, 0)) from by rw [← hw_]; exact blk_far N18_.out E9_.out _)
  have N24_ := Aside0.mk (show w21_.heap[g12]? = some (.cells #[.int .u32 3, .int .u64 ((0 + 24 * (l.length + 1) : Nat) : Int), .int .u64 ((strP l).length : Int), .int .u32 0, .int .u64 0] 45 (0, 0)) from by rw [← hw_]; exact blk_far N19_.out E10_.out _)
  have N25_ := Aside0.mk (show w21_.heap[g13]? = some (.cells #[.int .u32 2, .int .u64 0, .int .u64 ((24 * (l.length + 1) : Nat) : Int), .int .u32 2, .int .u64 each] 45 (0, 0)) from by rw [← hw_]; exact (blk_set N20_.out 4 (.int .u64 each)).trans (by first | rfl | simp))
  clear hw_ B17_ N18_ N19_ N20_
  go_upto_region 7 with (fail)
  refine wp_region_lit ?_
  refine RS.t1 45 rfl (by kernel_rfl) (.slice (some ⟨gb, 0, none⟩) (madeB 0 l).length capb) (by kernel_rfl) ?_
  (try simp only [Act.put, List.setIfInBounds_toArray, List.set_cons_zero, List.set_cons_succ])
  refine RS.t1 46 rfl (by kernel_rfl) (.agg #[.int .u32 0, .int .u64 0, .int .u64 0, .int .u32 0, .int .u64 0]) (by kernel_rfl) ?_
  (try simp only [Act.put, List.setIfInBounds_toArray, List.set_cons_zero, List.set_cons_succ])
  refine RS.t1 47 rfl (by kernel_rfl) (.agg #[.int .u32 2, .int .u64 0, .int .u64 ((24 * (l.length + 1) : Nat) : Int), .int .u32 2, .int .u64 each]) (load_row (g := g13) N25_.out (Try.underlying45) rfl (by kernel_rfl) rfl (by kernel_rfl)) ?_
  (try simp only [Act.put, List.setIfInBounds_toArray, List.set_cons_zero, List.set_cons_succ])
  refine RS.t1 48 rfl (by kernel_rfl) (.agg #[.int .u32 3, .int .u64 ((0 + 24 * (l.length + 1) : Nat) : Int), .int .u64 ((strP l).length : Int), .int .u32 0, .int .u64 0]) (load_row (g := g12) N24_.out (Try.underlying45) rfl (by kernel_rfl) rfl (by kernel_rfl)) ?_
  (try simp only [Act.put, List.setIfInBounds_toArray, List.set_cons_zero, List.set_cons_succ])
  obtain ⟨gs1, hg_⟩ : ∃ g_, w21_.heap.size = g_ := ⟨_, rfl⟩
  refine RS.tE 49 rfl (by kernel_rfl) (v := .slice (some ⟨gs1, 0, none⟩) 3 3) ((show _ = Result.ok (.value (.slice (some ⟨w21_.heap.size, 0, none⟩) 3 3)) (w21_.alloc (.cells #[.int .u32 0, .int .u64 0, .int .u64 0, .int .u32 0, .int .u64 0, .int .u32 2, .int .u64 0, .int .u64 ((24 * (l.length + 1) : Nat) : Int), .int .u32 2, .int .u64 each, .int .u32 3, .int .u64 ((0 + 24 * (l.length + 1) : Nat) : Int), .int .u64 ((strP l).length : Int), .int .u32 0, .int .u64 0] 45 (0, 0))) from by kernel_rfl).trans (by rw [hg_])) ?_
  obtain ⟨w26_, hw_⟩ : ∃ w_, w21_.alloc (.cells #[.int .u32 0, .int .u64 0, .int .u64 0, .int .u32 0, .int .u64 0, .int .u32 2, .int .u64 0, .int .u64 ((24 * (l.length + 1) : Nat) : Int), .int .u32 2, .int .u64 each, .int .u32 3, .int .u64 ((0 + 24 * (l.length + 1) : Nat) : Int), .int .u64 ((strP l).length : Int), .int .u32 0, .int .u64 0] 45 (0, 0)) = w_ := ⟨_, rfl⟩
  rw [hw_]
  have hb_ : Below w21_.heap.size w21_ w26_ := by rw [← hw_]; exact bX_ (Below.refl _ _) _
  have hn_ : w26_.heap[gs1]? = some (.cells #[.int .u32 0, .int .u64 0, .int .u64 0, .int .u32 0, .int .u64 0, .int .u32 2, .int .u64 0, .int .u64 ((24 * (l.length + 1) : Nat) : Int), .int .u32 2, .int .u64 each, .int .u32 3, .int .u64 ((0 + 24 * (l.length + 1) : Nat) : Int), .int .u64 ((strP l).length : Int), .int .u32 0, .int .u64 0] 45 (0, 0)) := by rw [← hw_, ← hg_]; exact World.alloc_heap_new w21_ _
  have E27_ := Aside0.mk (show g11 ≠ gs1 from by have := blk_lt N23_.out; omega)
  have E28_ := Aside0.mk (show g12 ≠ gs1 from by have := blk_lt N24_.out; omega)
  have E29_ := Aside0.mk (show g13 ≠ gs1 from by have := blk_lt N25_.out; omega)
  have G30_ := Aside0.mk (show wm.heap.size ≤ gs1 from by have := B22_.out.size; omega)
  have B31_ := Aside0.mk (below_step B22_.out hb_)
  have N32_ := Aside0.mk (heap_below hb_ N23_.out)
  have N33_ := Aside0.mk (heap_below hb_ N24_.out)
  have N34_ := Aside0.mk (heap_below hb_ N25_.out)
  have N35_ := Aside0.mk hn_
  clear hw_ hb_ hn_ hg_ B22_ N23_ N24_ N25_
  have HR_ := Aside0.mk (C_of_block k45 (xs := secsG each 3 2 0 ((24 * (l.length + 1) : Nat) : Int) ((0 + 24 * (l.length + 1) : Nat) : Int) ((strP l).length : Int)) N35_.out (Reps.K_of k45 (base := 0) (ok := fun _ => True) (Reps.c5 (k45_mkM _ _ _ z45) (Reps.c5 (k45_mkM _ _ _ ⟨2, 0, ((24 * (l.length + 1) : Nat) : Int), 2, each⟩) (Reps.c5 (k45_mkM _ _ _ ⟨3, ((0 + 24 * (l.length + 1) : Nat) : Int), ((strP l).length : Int), 0, 0⟩) (Reps.none _ _))))) (by show (3 : Nat) ≤ 9223372036854775807; decide))
  (try simp only [Act.put, List.setIfInBounds_toArray, List.set_cons_zero, List.set_cons_succ])
  refine RS.t1 50 rfl (by kernel_rfl) (.agg #[.int .u64 0, .int .u64 0, .int .u64 0, .slice none 0 0, .slice (some ⟨gs1, 0, none⟩) 3 3]) (by kernel_rfl) ?_
  (try simp only [Act.put, List.setIfInBounds_toArray, List.set_cons_zero, List.set_cons_succ])
  refine RS.tC 51 rfl (by kernel_rfl) (show _ = Result.ok (Next.enter 10 #[.slice (some ⟨gb, 0, none⟩) (madeB 0 l).length capb, .agg #[.int .u64 0, .int .u64 0, .int .u64 0, .slice none 0 0, .slice (some ⟨gs1, 0, none⟩) 3 3]]) _ from by kernel_rfl) ?_
  refine (read_calls (some ⟨gb, 0, none⟩) capb (madeB 0 l) 0 0 0 none 0 0 (some ⟨gs1, 0, none⟩) 3 3 (secsG each 3 2 0 ((24 * (l.length + 1) : Nat) : Int) ((0 + 24 * (l.length + 1) : Nat) : Int) ((strP l).length : Int)) w26_ (HO.out.met B31_.out).C HO.out.cap_le (by have := HML.out; omega) (BB_made _ HOK.out) (.inl (by rw [madeB_len]; omega)) HR_.out rfl (by decide) (secsG_ok HOK.out H60.out HE.out (by decide) (by decide) (by unfold Rg; have := H60.out; have := HML.out; omega))).mono ?_
  rintro e w36_ ⟨v_, rfl, hr⟩
  obtain ⟨A_1, c_1, rfl, -, -, hb_⟩ := hr.form
  generalize List.length _ = n_1
  clear hr HR_
  have B37_ := Aside0.mk (below_step B31_.out hb_)
  have N38_ := Aside0.mk (heap_below hb_ N32_.out)
  have N39_ := Aside0.mk (heap_below hb_ N33_.out)
  have N40_ := Aside0.mk (heap_below hb_ N34_.out)
  clear hb_ B31_ N32_ N33_ N34_
  refine ⟨_, rfl, ?_⟩
  (try simp only [Act.put, List.setIfInBounds_toArray, List.set_cons_zero, List.set_cons_succ])
  refine RS.t1 44 rfl (by kernel_rfl) (.tuple #[.slice A_1 n_1 c_1, .int .i64 (errR l each 3 2 ((0 + 24 * (l.length + 1) : Nat) : Int))]) (by kernel_rfl) ?_
  (try simp only [Act.put, List.setIfInBounds_toArray, List.set_cons_zero, List.set_cons_succ])
  refine RS.t1 52 rfl (by kernel_rfl) (.slice A_1 n_1 c_1) (by kernel_rfl) ?_
  (try simp only [Act.put, List.setIfInBounds_toArray, List.set_cons_zero, List.set_cons_succ])
  refine RS.t1 53 rfl (by kernel_rfl) (.int .i64 (errR l each 3 2 ((0 + 24 * (l.length + 1) : Nat) : Int))) (by kernel_rfl) ?_
  (try simp only [Act.put, List.setIfInBounds_toArray, List.set_cons_zero, List.set_cons_succ])
  refine RS.t1 14 rfl (by kernel_rfl) (.slice A_1 n_1 c_1) (by kernel_rfl) ?_
  (try simp only [Act.put, List.setIfInBounds_toArray, List.set_cons_zero, List.set_cons_succ])
  refine RS.t1 15 rfl (by kernel_rfl) (.int .i64 (errR l each 3 2 ((0 + 24 * (l.length + 1) : Nat) : Int))) (by kernel_rfl) ?_
  (try simp only [Act.put, List.setIfInBounds_toArray, List.set_cons_zero, List.set_cons_succ])
  go_upto_region 8 with (fail)
  refine wp_region_lit ?_
  refine RS.t1 54 rfl (by kernel_rfl) (.agg #[.int .u32 3, .int .u64 ((0 + 24 * (l.length + 1) : Nat) : Int), .int .u64 ((strP l).length : Int), .int .u32 0, .int .u64 0]) (load_row (g := g12) N39_.out (Try.underlying45) rfl (by kernel_rfl) rfl (by kernel_rfl)) ?_
  (try simp only [Act.put, List.setIfInBounds_toArray, List.set_cons_zero, List.set_cons_succ])
  obtain ⟨g16, hg_⟩ : ∃ g_, w36_.heap.size = g_ := ⟨_, rfl⟩
  refine RS.tE 16 rfl (by kernel_rfl) (v := .pointer (some ⟨g16, 0, none⟩)) ((show _ = Result.ok (.value (.pointer (some ⟨w36_.heap.size, 0, none⟩))) (w36_.alloc (.cells #[.int .u32 0, .int .u64 0, .int .u64 0, .int .u32 0, .int .u64 0] 45 (0, 0))) from by kernel_rfl).trans (by rw [hg_])) ?_
  obtain ⟨w41_, hw_⟩ : ∃ w_, w36_.alloc (.cells #[.int .u32 0, .int .u64 0, .int .u64 0, .int .u32 0, .int .u64 0] 45 (0, 0)) = w_ := ⟨_, rfl⟩
  rw [hw_]
  have hb_ : Below w36_.heap.size w36_ w41_ := by rw [← hw_]; exact bX_ (Below.refl _ _) _
  have hn_ : w41_.heap[g16]? = some (.cells #[.int .u32 0, .int .u64 0, .int .u64 0, .int .u32 0, .int .u64 0] 45 (0, 0)) := by rw [← hw_, ← hg_]; exact World.alloc_heap_new w36_ _
  have E42_ := Aside0.mk (show g11 ≠ g16 from by have := blk_lt N38_.out; omega)
  have E43_ := Aside0.mk (show g12 ≠ g16 from by have := blk_lt N39_.out; omega)
  have E44_ := Aside0.mk (show g13 ≠ g16 from by have := blk_lt N40_.out; omega)
  have G45_ := Aside0.mk (show wm.heap.size ≤ g16 from by have := B37_.out.size; omega)
  have B46_ := Aside0.mk (below_step B37_.out hb_)
  have N47_ := Aside0.mk (heap_below hb_ N38_.out)
  have N48_ := Aside0.mk (heap_below hb_ N39_.out)
  have N49_ := Aside0.mk (heap_below hb_ N40_.out)
  have N50_ := Aside0.mk hn_
  clear hw_ hb_ hn_ hg_ B37_ N38_ N39_ N40_
  (try simp only [Act.put, List.setIfInBounds_toArray, List.set_cons_zero, List.set_cons_succ])
  refine RS.tS rfl (by kernel_rfl) (run_store_row (g := g16) (cells := #[.int .u32 3, .int .u64 ((0 + 24 * (l.length + 1) : Nat) : Int), .int .u64 ((strP l).length : Int), .int .u32 0, .int .u64 0]) rfl (by kernel_rfl) (by kernel_rfl) N50_.out (by kernel_rfl) rfl (by simp [Value.oneCell'])) ?_
  obtain ⟨w51_, hw_⟩ : ∃ w_, w41_.setRow g16 #[.int .u32 3, .int .u64 ((0 + 24 * (l.length + 1) : Nat) : Int), .int .u64 ((strP l).length : Int), .int .u32 0, .int .u64 0] = w_ := ⟨_, rfl⟩
  rw [hw_]
  have B52_ := Aside0.mk (show Below wm.heap.size wm w51_ from by rw [← hw_]; exact below_setRow B46_.out G45_.out _)
  have N53_ := Aside0.mk (show w51_.heap[g11]? = some (.cells #[.int .u32 2, .int .u64 0, .int .u64 ((24 * (l.length + 1) : Nat) : Int), .int .u32 2, .int .u64 24] 45 (0, 0)) from by rw [← hw_]; exact (setRow_other _ _ _ _ E42_.out).trans N47_.out)
  have N54_ := Aside0.mk (show w51_.heap[g12]? = some (.cells #[.int .u32 3, .int .u64 ((0 + 24 * (l.length + 1) : Nat) : Int), .int .u64 ((strP l).length : Int), .int .u32 0, .int .u64 0] 45 (0, 0)) from by rw [← hw_]; exact (setRow_other _ _ _ _ E43_.out).trans N48_.out)
  have N55_ := Aside0.mk (show w51_.heap[g13]? = some (.cells #[.int .u32 2, .int .u64 0, .int .u64 ((24 * (l.length + 1) : Nat) : Int), .int .u32 2, .int .u64 each] 45 (0, 0)) from by rw [← hw_]; exact (setRow_other _ _ _ _ E44_.out).trans N49_.out)
  have N56_ := Aside0.mk (show w51_.heap[g16]? = some (.cells #[.int .u32 3, .int .u64 ((0 + 24 * (l.length + 1) : Nat) : Int), .int .u64 ((strP l).length : Int), .int .u32 0, .int .u64 0] 45 (0, 0)) from by rw [← hw_]; exact setRow_heap w41_ g16 _ _ 45 (0, 0) N50_.out)
  clear hw_ B46_ N47_ N48_ N49_ N50_
  go_upto_region 9 with (fail)
  refine wp_region_lit ?_
  refine RS.t1 55 rfl (by kernel_rfl) (.int .u32 kind) (by kernel_rfl) ?_
  (try simp only [Act.put, List.setIfInBounds_toArray, List.set_cons_zero, List.set_cons_succ])
  refine RS.t1 56 rfl (by kernel_rfl) (.pointer (some ⟨g16, 0, none⟩)) (by kernel_rfl) ?_
  (try simp only [Act.put, List.setIfInBounds_toArray, List.set_cons_zero, List.set_cons_succ])
  refine RS.tS rfl (by kernel_rfl) (st (ad := ⟨g16, 0, none⟩) (u := .int .u32 3) (v := .int .u32 kind) (by kernel_rfl) rfl ((bC_ N56_.out 0).trans rfl) (bF_ N56_.out 0) rfl (by kernel_rfl) (by kernel_rfl)) ?_
  obtain ⟨w57_, hw_⟩ : ∃ w_, w51_.setCell ⟨g16, 0, none⟩ (.int .u32 kind) = w_ := ⟨_, rfl⟩
  rw [hw_]
  have B58_ := Aside0.mk (show Below wm.heap.size wm w57_ from by rw [← hw_]; exact B52_.out.trans (((Keeps.refl (fun k => k = g16) w51_).setCell ⟨g16, 0, none⟩ (.int .u32 kind) rfl).below B52_.out.size (fun k hk e => by have := G45_.out; omega)))
  have N59_ := Aside0.mk (show w57_.heap[g11]? = some (.cells #[.int .u32 2, .int .u64 0, .int .u64 ((24 * (l.length + 1) : Nat) : Int), .int .u32 2, .int .u64 24] 45 (0, 0)) from by rw [← hw_]; exact blk_far N53_.out E42_.out _)
  have N60_ := Aside0.mk (show w57_.heap[g12]? = some (.cells #[.int .u32 3, .int .u64 ((0 + 24 * (l.length + 1) : Nat) : Int), .int .u64 ((strP l).length : Int), .int .u32 0, .int .u64 0] 45 (0, 0)) from by rw [← hw_]; exact blk_far N54_.out E43_.out _)
  have N61_ := Aside0.mk (show w57_.heap[g13]? = some (.cells #[.int .u32 2, .int .u64 0, .int .u64 ((24 * (l.length + 1) : Nat) : Int), .int .u32 2, .int .u64 each] 45 (0, 0)) from by rw [← hw_]; exact blk_far N55_.out E44_.out _)
  have N62_ := Aside0.mk (show w57_.heap[g16]? = some (.cells #[.int .u32 kind, .int .u64 ((0 + 24 * (l.length + 1) : Nat) : Int), .int .u64 ((strP l).length : Int), .int .u32 0, .int .u64 0] 45 (0, 0)) from by rw [← hw_]; exact (blk_set N56_.out 0 (.int .u32 kind)).trans (by first | rfl | simp))
  clear hw_ B52_ N53_ N54_ N55_ N56_
  go_upto_region 10 with (fail)
  refine wp_region_lit ?_
  refine RS.t1 58 rfl (by kernel_rfl) (.slice (some ⟨gb, 0, none⟩) (madeB 0 l).length capb) (by kernel_rfl) ?_
  (try simp only [Act.put, List.setIfInBounds_toArray, List.set_cons_zero, List.set_cons_succ])
  refine RS.t1 59 rfl (by kernel_rfl) (.agg #[.int .u32 0, .int .u64 0, .int .u64 0, .int .u32 0, .int .u64 0]) (by kernel_rfl) ?_
  (try simp only [Act.put, List.setIfInBounds_toArray, List.set_cons_zero, List.set_cons_succ])
  refine RS.t1 60 rfl (by kernel_rfl) (.agg #[.int .u32 2, .int .u64 0, .int .u64 ((24 * (l.length + 1) : Nat) : Int), .int .u32 2, .int .u64 24]) (load_row (g := g11) N59_.out (Try.underlying45) rfl (by kernel_rfl) rfl (by kernel_rfl)) ?_
  (try simp only [Act.put, List.setIfInBounds_toArray, List.set_cons_zero, List.set_cons_succ])
  refine RS.t1 61 rfl (by kernel_rfl) (.agg #[.int .u32 kind, .int .u64 ((0 + 24 * (l.length + 1) : Nat) : Int), .int .u64 ((strP l).length : Int), .int .u32 0, .int .u64 0]) (load_row (g := g16) N62_.out (Try.underlying45) rfl (by kernel_rfl) rfl (by kernel_rfl)) ?_
  (try simp only [Act.put, List.setIfInBounds_toArray, List.set_cons_zero, List.set_cons_succ])
  obtain ⟨gs2, hg_⟩ : ∃ g_, w57_.heap.size = g_ := ⟨_, rfl⟩
  refine RS.tE 62 rfl (by kernel_rfl) (v := .slice (some ⟨gs2, 0, none⟩) 3 3) ((show _ = Result.ok (.value (.slice (some ⟨w57_.heap.size, 0, none⟩) 3 3)) (w57_.alloc (.cells #[.int .u32 0, .int .u64 0, .int .u64 0, .int .u32 0, .int .u64 0, .int .u32 2, .int .u64 0, .int .u64 ((24 * (l.length + 1) : Nat) : Int), .int .u32 2, .int .u64 24, .int .u32 kind, .int .u64 ((0 + 24 * (l.length + 1) : Nat) : Int), .int .u64 ((strP l).length : Int), .int .u32 0, .int .u64 0] 45 (0, 0))) from by kernel_rfl).trans (by rw [hg_])) ?_
  obtain ⟨w63_, hw_⟩ : ∃ w_, w57_.alloc (.cells #[.int .u32 0, .int .u64 0, .int .u64 0, .int .u32 0, .int .u64 0, .int .u32 2, .int .u64 0, .int .u64 ((24 * (l.length + 1) : Nat) : Int), .int .u32 2, .int .u64 24, .int .u32 kind, .int .u64 ((0 + 24 * (l.length + 1) : Nat) : Int), .int .u64 ((strP l).length : Int), .int .u32 0, .int .u64 0] 45 (0, 0)) = w_ := ⟨_, rfl⟩
  rw [hw_]
  have hb_ : Below w57_.heap.size w57_ w63_ := by rw [← hw_]; exact bX_ (Below.refl _ _) _
  have hn_ : w63_.heap[gs2]? = some (.cells #[.int .u32 0, .int .u64 0, .int .u64 0, .int .u32 0, .int .u64 0, .int .u32 2, .int .u64 0, .int .u64 ((24 * (l.length + 1) : Nat) : Int), .int .u32 2, .int .u64 24, .int .u32 kind, .int .u64 ((0 + 24 * (l.length + 1) : Nat) : Int), .int .u64 ((strP l).length : Int), .int .u32 0, .int .u64 0] 45 (0, 0)) := by rw [← hw_, ← hg_]; exact World.alloc_heap_new w57_ _
  have E64_ := Aside0.mk (show g11 ≠ gs2 from by have := blk_lt N59_.out; omega)
  have E65_ := Aside0.mk (show g12 ≠ gs2 from by have := blk_lt N60_.out; omega)
  have E66_ := Aside0.mk (show g13 ≠ gs2 from by have := blk_lt N61_.out; omega)
  have E67_ := Aside0.mk (show g16 ≠ gs2 from by have := blk_lt N62_.out; omega)
  have G68_ := Aside0.mk (show wm.heap.size ≤ gs2 from by have := B58_.out.size; omega)
  have B69_ := Aside0.mk (below_step B58_.out hb_)
  have N70_ := Aside0.mk (heap_below hb_ N59_.out)
  have N71_ := Aside0.mk (heap_below hb_ N60_.out)
  have N72_ := Aside0.mk (heap_below hb_ N61_.out)
  have N73_ := Aside0.mk (heap_below hb_ N62_.out)
  have N74_ := Aside0.mk hn_
  clear hw_ hb_ hn_ hg_ B58_ N59_ N60_ N61_ N62_
  have HR_ := Aside0.mk (C_of_block k45 (xs := secsG 24 kind 2 0 ((24 * (l.length + 1) : Nat) : Int) ((0 + 24 * (l.length + 1) : Nat) : Int) ((strP l).length : Int)) N74_.out (Reps.K_of k45 (base := 0) (ok := fun _ => True) (Reps.c5 (k45_mkM _ _ _ z45) (Reps.c5 (k45_mkM _ _ _ ⟨2, 0, ((24 * (l.length + 1) : Nat) : Int), 2, 24⟩) (Reps.c5 (k45_mkM _ _ _ ⟨kind, ((0 + 24 * (l.length + 1) : Nat) : Int), ((strP l).length : Int), 0, 0⟩) (Reps.none _ _))))) (by show (3 : Nat) ≤ 9223372036854775807; decide))
  (try simp only [Act.put, List.setIfInBounds_toArray, List.set_cons_zero, List.set_cons_succ])
  refine RS.t1 63 rfl (by kernel_rfl) (.agg #[.int .u64 0, .int .u64 0, .int .u64 0, .slice none 0 0, .slice (some ⟨gs2, 0, none⟩) 3 3]) (by kernel_rfl) ?_
  (try simp only [Act.put, List.setIfInBounds_toArray, List.set_cons_zero, List.set_cons_succ])
  refine RS.tC 64 rfl (by kernel_rfl) (show _ = Result.ok (Next.enter 10 #[.slice (some ⟨gb, 0, none⟩) (madeB 0 l).length capb, .agg #[.int .u64 0, .int .u64 0, .int .u64 0, .slice none 0 0, .slice (some ⟨gs2, 0, none⟩) 3 3]]) _ from by kernel_rfl) ?_
  refine (read_calls (some ⟨gb, 0, none⟩) capb (madeB 0 l) 0 0 0 none 0 0 (some ⟨gs2, 0, none⟩) 3 3 (secsG 24 kind 2 0 ((24 * (l.length + 1) : Nat) : Int) ((0 + 24 * (l.length + 1) : Nat) : Int) ((strP l).length : Int)) w63_ (HO.out.met B69_.out).C HO.out.cap_le (by have := HML.out; omega) (BB_made _ HOK.out) (.inl (by rw [madeB_len]; omega)) HR_.out rfl (by decide) (secsG_ok HOK.out H60.out (by unfold Rg; decide) HKI.out (by decide) (by unfold Rg; have := H60.out; have := HML.out; omega))).mono ?_
  rintro e w75_ ⟨v_, rfl, hr⟩
  obtain ⟨A_2, c_2, rfl, -, -, hb_⟩ := hr.form
  generalize List.length _ = n_2
  clear hr HR_
  have B76_ := Aside0.mk (below_step B69_.out hb_)
  have N77_ := Aside0.mk (heap_below hb_ N70_.out)
  have N78_ := Aside0.mk (heap_below hb_ N71_.out)
  have N79_ := Aside0.mk (heap_below hb_ N72_.out)
  have N80_ := Aside0.mk (heap_below hb_ N73_.out)
  clear hb_ B69_ N70_ N71_ N72_ N73_
  refine ⟨_, rfl, ?_⟩
  (try simp only [Act.put, List.setIfInBounds_toArray, List.set_cons_zero, List.set_cons_succ])
  refine RS.t1 57 rfl (by kernel_rfl) (.tuple #[.slice A_2 n_2 c_2, .int .i64 (errR l 24 kind 2 ((0 + 24 * (l.length + 1) : Nat) : Int))]) (by kernel_rfl) ?_
  (try simp only [Act.put, List.setIfInBounds_toArray, List.set_cons_zero, List.set_cons_succ])
  refine RS.t1 65 rfl (by kernel_rfl) (.slice A_2 n_2 c_2) (by kernel_rfl) ?_
  (try simp only [Act.put, List.setIfInBounds_toArray, List.set_cons_zero, List.set_cons_succ])
  refine RS.t1 66 rfl (by kernel_rfl) (.int .i64 (errR l 24 kind 2 ((0 + 24 * (l.length + 1) : Nat) : Int))) (by kernel_rfl) ?_
  (try simp only [Act.put, List.setIfInBounds_toArray, List.set_cons_zero, List.set_cons_succ])
  refine RS.t1 17 rfl (by kernel_rfl) (.slice A_2 n_2 c_2) (by kernel_rfl) ?_
  (try simp only [Act.put, List.setIfInBounds_toArray, List.set_cons_zero, List.set_cons_succ])
  refine RS.t1 18 rfl (by kernel_rfl) (.int .i64 (errR l 24 kind 2 ((0 + 24 * (l.length + 1) : Nat) : Int))) (by kernel_rfl) ?_
  (try simp only [Act.put, List.setIfInBounds_toArray, List.set_cons_zero, List.set_cons_succ])
  go_upto_region 11 with (fail)
  refine wp_region_lit ?_
  refine RS.t1 67 rfl (by kernel_rfl) (.agg #[.int .u32 2, .int .u64 0, .int .u64 ((24 * (l.length + 1) : Nat) : Int), .int .u32 2, .int .u64 24]) (load_row (g := g11) N77_.out (Try.underlying45) rfl (by kernel_rfl) rfl (by kernel_rfl)) ?_
  (try simp only [Act.put, List.setIfInBounds_toArray, List.set_cons_zero, List.set_cons_succ])
  refine RS.tS rfl (by kernel_rfl) (run_store_row (g := g13) (cells := #[.int .u32 2, .int .u64 0, .int .u64 ((24 * (l.length + 1) : Nat) : Int), .int .u32 2, .int .u64 24]) rfl (by kernel_rfl) (by kernel_rfl) N79_.out (by kernel_rfl) rfl (by simp [Value.oneCell'])) ?_
  obtain ⟨w81_, hw_⟩ : ∃ w_, w75_.setRow g13 #[.int .u32 2, .int .u64 0, .int .u64 ((24 * (l.length + 1) : Nat) : Int), .int .u32 2, .int .u64 24] = w_ := ⟨_, rfl⟩
  rw [hw_]
  have B82_ := Aside0.mk (show Below wm.heap.size wm w81_ from by rw [← hw_]; exact below_setRow B76_.out G11_.out _)
  have N83_ := Aside0.mk (show w81_.heap[g11]? = some (.cells #[.int .u32 2, .int .u64 0, .int .u64 ((24 * (l.length + 1) : Nat) : Int), .int .u32 2, .int .u64 24] 45 (0, 0)) from by rw [← hw_]; exact (setRow_other _ _ _ _ E9_.out).trans N77_.out)
  have N84_ := Aside0.mk (show w81_.heap[g12]? = some (.cells #[.int .u32 3, .int .u64 ((0 + 24 * (l.length + 1) : Nat) : Int), .int .u64 ((strP l).length : Int), .int .u32 0, .int .u64 0] 45 (0, 0)) from by rw [← hw_]; exact (setRow_other _ _ _ _ E10_.out).trans N78_.out)
  have N85_ := Aside0.mk (show w81_.heap[g13]? = some (.cells #[.int .u32 2, .int .u64 0, .int .u64 ((24 * (l.length + 1) : Nat) : Int), .int .u32 2, .int .u64 24] 45 (0, 0)) from by rw [← hw_]; exact setRow_heap w75_ g13 _ _ 45 (0, 0) N79_.out)
  have N86_ := Aside0.mk (show w81_.heap[g16]? = some (.cells #[.int .u32 kind, .int .u64 ((0 + 24 * (l.length + 1) : Nat) : Int), .int .u64 ((strP l).length : Int), .int .u32 0, .int .u64 0] 45 (0, 0)) from by rw [← hw_]; exact (setRow_other _ _ _ _ (Ne.symm E44_.out)).trans N80_.out)
  clear hw_ B76_ N77_ N78_ N79_ N80_
  go_upto_region 12 with (fail)
  refine wp_region_lit ?_
  refine RS.t1 68 rfl (by kernel_rfl) (.int .u32 link) (by kernel_rfl) ?_
  (try simp only [Act.put, List.setIfInBounds_toArray, List.set_cons_zero, List.set_cons_succ])
  refine RS.t1 69 rfl (by kernel_rfl) (.pointer (some ⟨g13, 3, none⟩)) (by kernel_rfl) ?_
  (try simp only [Act.put, List.setIfInBounds_toArray, List.set_cons_zero, List.set_cons_succ])
  refine RS.tS rfl (by kernel_rfl) (st (ad := ⟨g13, 3, none⟩) (u := .int .u32 2) (v := .int .u32 link) (by kernel_rfl) rfl ((bC_ N85_.out 3).trans rfl) (bF_ N85_.out 3) rfl (by kernel_rfl) (by kernel_rfl)) ?_
  obtain ⟨w87_, hw_⟩ : ∃ w_, w81_.setCell ⟨g13, 3, none⟩ (.int .u32 link) = w_ := ⟨_, rfl⟩
  rw [hw_]
  have B88_ := Aside0.mk (show Below wm.heap.size wm w87_ from by rw [← hw_]; exact B82_.out.trans (((Keeps.refl (fun k => k = g13) w81_).setCell ⟨g13, 3, none⟩ (.int .u32 link) rfl).below B82_.out.size (fun k hk e => by have := G11_.out; omega)))
  have N89_ := Aside0.mk (show w87_.heap[g11]? = some (.cells #[.int .u32 2, .int .u64 0, .int .u64 ((24 * (l.length + 1) : Nat) : Int), .int .u32 2, .int .u64 24] 45 (0, 0)) from by rw [← hw_]; exact blk_far N83_.out E9_.out _)
  have N90_ := Aside0.mk (show w87_.heap[g12]? = some (.cells #[.int .u32 3, .int .u64 ((0 + 24 * (l.length + 1) : Nat) : Int), .int .u64 ((strP l).length : Int), .int .u32 0, .int .u64 0] 45 (0, 0)) from by rw [← hw_]; exact blk_far N84_.out E10_.out _)
  have N91_ := Aside0.mk (show w87_.heap[g13]? = some (.cells #[.int .u32 2, .int .u64 0, .int .u64 ((24 * (l.length + 1) : Nat) : Int), .int .u32 link, .int .u64 24] 45 (0, 0)) from by rw [← hw_]; exact (blk_set N85_.out 3 (.int .u32 link)).trans (by first | rfl | simp))
  have N92_ := Aside0.mk (show w87_.heap[g16]? = some (.cells #[.int .u32 kind, .int .u64 ((0 + 24 * (l.length + 1) : Nat) : Int), .int .u64 ((strP l).length : Int), .int .u32 0, .int .u64 0] 45 (0, 0)) from by rw [← hw_]; exact blk_far N86_.out (Ne.symm E44_.out) _)
  clear hw_ B82_ N83_ N84_ N85_ N86_
  go_upto_region 13 with (fail)
  refine wp_region_lit ?_
  refine RS.t1 71 rfl (by kernel_rfl) (.slice (some ⟨gb, 0, none⟩) (madeB 0 l).length capb) (by kernel_rfl) ?_
  (try simp only [Act.put, List.setIfInBounds_toArray, List.set_cons_zero, List.set_cons_succ])
  refine RS.t1 72 rfl (by kernel_rfl) (.agg #[.int .u32 0, .int .u64 0, .int .u64 0, .int .u32 0, .int .u64 0]) (by kernel_rfl) ?_
  (try simp only [Act.put, List.setIfInBounds_toArray, List.set_cons_zero, List.set_cons_succ])
  refine RS.t1 73 rfl (by kernel_rfl) (.agg #[.int .u32 2, .int .u64 0, .int .u64 ((24 * (l.length + 1) : Nat) : Int), .int .u32 link, .int .u64 24]) (load_row (g := g13) N91_.out (Try.underlying45) rfl (by kernel_rfl) rfl (by kernel_rfl)) ?_
  (try simp only [Act.put, List.setIfInBounds_toArray, List.set_cons_zero, List.set_cons_succ])
  refine RS.t1 74 rfl (by kernel_rfl) (.agg #[.int .u32 3, .int .u64 ((0 + 24 * (l.length + 1) : Nat) : Int), .int .u64 ((strP l).length : Int), .int .u32 0, .int .u64 0]) (load_row (g := g12) N90_.out (Try.underlying45) rfl (by kernel_rfl) rfl (by kernel_rfl)) ?_
  (try simp only [Act.put, List.setIfInBounds_toArray, List.set_cons_zero, List.set_cons_succ])
  obtain ⟨gs3, hg_⟩ : ∃ g_, w87_.heap.size = g_ := ⟨_, rfl⟩
  refine RS.tE 75 rfl (by kernel_rfl) (v := .slice (some ⟨gs3, 0, none⟩) 3 3) ((show _ = Result.ok (.value (.slice (some ⟨w87_.heap.size, 0, none⟩) 3 3)) (w87_.alloc (.cells #[.int .u32 0, .int .u64 0, .int .u64 0, .int .u32 0, .int .u64 0, .int .u32 2, .int .u64 0, .int .u64 ((24 * (l.length + 1) : Nat) : Int), .int .u32 link, .int .u64 24, .int .u32 3, .int .u64 ((0 + 24 * (l.length + 1) : Nat) : Int), .int .u64 ((strP l).length : Int), .int .u32 0, .int .u64 0] 45 (0, 0))) from by kernel_rfl).trans (by rw [hg_])) ?_
  obtain ⟨w93_, hw_⟩ : ∃ w_, w87_.alloc (.cells #[.int .u32 0, .int .u64 0, .int .u64 0, .int .u32 0, .int .u64 0, .int .u32 2, .int .u64 0, .int .u64 ((24 * (l.length + 1) : Nat) : Int), .int .u32 link, .int .u64 24, .int .u32 3, .int .u64 ((0 + 24 * (l.length + 1) : Nat) : Int), .int .u64 ((strP l).length : Int), .int .u32 0, .int .u64 0] 45 (0, 0)) = w_ := ⟨_, rfl⟩
  rw [hw_]
  have hb_ : Below w87_.heap.size w87_ w93_ := by rw [← hw_]; exact bX_ (Below.refl _ _) _
  have hn_ : w93_.heap[gs3]? = some (.cells #[.int .u32 0, .int .u64 0, .int .u64 0, .int .u32 0, .int .u64 0, .int .u32 2, .int .u64 0, .int .u64 ((24 * (l.length + 1) : Nat) : Int), .int .u32 link, .int .u64 24, .int .u32 3, .int .u64 ((0 + 24 * (l.length + 1) : Nat) : Int), .int .u64 ((strP l).length : Int), .int .u32 0, .int .u64 0] 45 (0, 0)) := by rw [← hw_, ← hg_]; exact World.alloc_heap_new w87_ _
  have E94_ := Aside0.mk (show g11 ≠ gs3 from by have := blk_lt N89_.out; omega)
  have E95_ := Aside0.mk (show g12 ≠ gs3 from by have := blk_lt N90_.out; omega)
  have E96_ := Aside0.mk (show g13 ≠ gs3 from by have := blk_lt N91_.out; omega)
  have E97_ := Aside0.mk (show g16 ≠ gs3 from by have := blk_lt N92_.out; omega)
  have G98_ := Aside0.mk (show wm.heap.size ≤ gs3 from by have := B88_.out.size; omega)
  have B99_ := Aside0.mk (below_step B88_.out hb_)
  have N100_ := Aside0.mk (heap_below hb_ N89_.out)
  have N101_ := Aside0.mk (heap_below hb_ N90_.out)
  have N102_ := Aside0.mk (heap_below hb_ N91_.out)
  have N103_ := Aside0.mk (heap_below hb_ N92_.out)
  have N104_ := Aside0.mk hn_
  clear hw_ hb_ hn_ hg_ B88_ N89_ N90_ N91_ N92_
  have HR_ := Aside0.mk (C_of_block k45 (xs := secsG 24 3 link 0 ((24 * (l.length + 1) : Nat) : Int) ((0 + 24 * (l.length + 1) : Nat) : Int) ((strP l).length : Int)) N104_.out (Reps.K_of k45 (base := 0) (ok := fun _ => True) (Reps.c5 (k45_mkM _ _ _ z45) (Reps.c5 (k45_mkM _ _ _ ⟨2, 0, ((24 * (l.length + 1) : Nat) : Int), link, 24⟩) (Reps.c5 (k45_mkM _ _ _ ⟨3, ((0 + 24 * (l.length + 1) : Nat) : Int), ((strP l).length : Int), 0, 0⟩) (Reps.none _ _))))) (by show (3 : Nat) ≤ 9223372036854775807; decide))
  (try simp only [Act.put, List.setIfInBounds_toArray, List.set_cons_zero, List.set_cons_succ])
  refine RS.t1 76 rfl (by kernel_rfl) (.agg #[.int .u64 0, .int .u64 0, .int .u64 0, .slice none 0 0, .slice (some ⟨gs3, 0, none⟩) 3 3]) (by kernel_rfl) ?_
  (try simp only [Act.put, List.setIfInBounds_toArray, List.set_cons_zero, List.set_cons_succ])
  refine RS.tC 77 rfl (by kernel_rfl) (show _ = Result.ok (Next.enter 10 #[.slice (some ⟨gb, 0, none⟩) (madeB 0 l).length capb, .agg #[.int .u64 0, .int .u64 0, .int .u64 0, .slice none 0 0, .slice (some ⟨gs3, 0, none⟩) 3 3]]) _ from by kernel_rfl) ?_
  refine (read_calls (some ⟨gb, 0, none⟩) capb (madeB 0 l) 0 0 0 none 0 0 (some ⟨gs3, 0, none⟩) 3 3 (secsG 24 3 link 0 ((24 * (l.length + 1) : Nat) : Int) ((0 + 24 * (l.length + 1) : Nat) : Int) ((strP l).length : Int)) w93_ (HO.out.met B99_.out).C HO.out.cap_le (by have := HML.out; omega) (BB_made _ HOK.out) (.inl (by rw [madeB_len]; omega)) HR_.out rfl (by decide) (secsG_ok HOK.out H60.out (by unfold Rg; decide) (by decide) HLK.out (by unfold Rg; have := H60.out; have := HML.out; omega))).mono ?_
  rintro e w105_ ⟨v_, rfl, hr⟩
  obtain ⟨A_3, c_3, rfl, -, -, hb_⟩ := hr.form
  generalize List.length _ = n_3
  clear hr HR_
  have B106_ := Aside0.mk (below_step B99_.out hb_)
  have N107_ := Aside0.mk (heap_below hb_ N100_.out)
  have N108_ := Aside0.mk (heap_below hb_ N101_.out)
  have N109_ := Aside0.mk (heap_below hb_ N102_.out)
  have N110_ := Aside0.mk (heap_below hb_ N103_.out)
  clear hb_ B99_ N100_ N101_ N102_ N103_
  refine ⟨_, rfl, ?_⟩
  (try simp only [Act.put, List.setIfInBounds_toArray, List.set_cons_zero, List.set_cons_succ])
  refine RS.t1 70 rfl (by kernel_rfl) (.tuple #[.slice A_3 n_3 c_3, .int .i64 (errR l 24 3 link ((0 + 24 * (l.length + 1) : Nat) : Int))]) (by kernel_rfl) ?_
  (try simp only [Act.put, List.setIfInBounds_toArray, List.set_cons_zero, List.set_cons_succ])
  refine RS.t1 78 rfl (by kernel_rfl) (.slice A_3 n_3 c_3) (by kernel_rfl) ?_
  (try simp only [Act.put, List.setIfInBounds_toArray, List.set_cons_zero, List.set_cons_succ])
  refine RS.t1 79 rfl (by kernel_rfl) (.int .i64 (errR l 24 3 link ((0 + 24 * (l.length + 1) : Nat) : Int))) (by kernel_rfl) ?_
  (try simp only [Act.put, List.setIfInBounds_toArray, List.set_cons_zero, List.set_cons_succ])
  refine RS.t1 19 rfl (by kernel_rfl) (.slice A_3 n_3 c_3) (by kernel_rfl) ?_
  (try simp only [Act.put, List.setIfInBounds_toArray, List.set_cons_zero, List.set_cons_succ])
  refine RS.t1 20 rfl (by kernel_rfl) (.int .i64 (errR l 24 3 link ((0 + 24 * (l.length + 1) : Nat) : Int))) (by kernel_rfl) ?_
  (try simp only [Act.put, List.setIfInBounds_toArray, List.set_cons_zero, List.set_cons_succ])
  go_upto_region 14 with (fail)
  refine wp_region_lit ?_
  refine RS.t1 80 rfl (by kernel_rfl) (.agg #[.int .u32 3, .int .u64 ((0 + 24 * (l.length + 1) : Nat) : Int), .int .u64 ((strP l).length : Int), .int .u32 0, .int .u64 0]) (load_row (g := g12) N108_.out (Try.underlying45) rfl (by kernel_rfl) rfl (by kernel_rfl)) ?_
  (try simp only [Act.put, List.setIfInBounds_toArray, List.set_cons_zero, List.set_cons_succ])
  refine RS.tS rfl (by kernel_rfl) (run_store_row (g := g16) (cells := #[.int .u32 3, .int .u64 ((0 + 24 * (l.length + 1) : Nat) : Int), .int .u64 ((strP l).length : Int), .int .u32 0, .int .u64 0]) rfl (by kernel_rfl) (by kernel_rfl) N110_.out (by kernel_rfl) rfl (by simp [Value.oneCell'])) ?_
  obtain ⟨w111_, hw_⟩ : ∃ w_, w105_.setRow g16 #[.int .u32 3, .int .u64 ((0 + 24 * (l.length + 1) : Nat) : Int), .int .u64 ((strP l).length : Int), .int .u32 0, .int .u64 0] = w_ := ⟨_, rfl⟩
  rw [hw_]
  have B112_ := Aside0.mk (show Below wm.heap.size wm w111_ from by rw [← hw_]; exact below_setRow B106_.out G45_.out _)
  have N113_ := Aside0.mk (show w111_.heap[g11]? = some (.cells #[.int .u32 2, .int .u64 0, .int .u64 ((24 * (l.length + 1) : Nat) : Int), .int .u32 2, .int .u64 24] 45 (0, 0)) from by rw [← hw_]; exact (setRow_other _ _ _ _ E42_.out).trans N107_.out)
  have N114_ := Aside0.mk (show w111_.heap[g12]? = some (.cells #[.int .u32 3, .int .u64 ((0 + 24 * (l.length + 1) : Nat) : Int), .int .u64 ((strP l).length : Int), .int .u32 0, .int .u64 0] 45 (0, 0)) from by rw [← hw_]; exact (setRow_other _ _ _ _ E43_.out).trans N108_.out)
  have N115_ := Aside0.mk (show w111_.heap[g13]? = some (.cells #[.int .u32 2, .int .u64 0, .int .u64 ((24 * (l.length + 1) : Nat) : Int), .int .u32 link, .int .u64 24] 45 (0, 0)) from by rw [← hw_]; exact (setRow_other _ _ _ _ E44_.out).trans N109_.out)
  have N116_ := Aside0.mk (show w111_.heap[g16]? = some (.cells #[.int .u32 3, .int .u64 ((0 + 24 * (l.length + 1) : Nat) : Int), .int .u64 ((strP l).length : Int), .int .u32 0, .int .u64 0] 45 (0, 0)) from by rw [← hw_]; exact setRow_heap w105_ g16 _ _ 45 (0, 0) N110_.out)
  clear hw_ B106_ N107_ N108_ N109_ N110_
  go_upto_region 15 with (fail)
  refine wp_region_lit ?_
  refine RS.t1 81 rfl (by kernel_rfl) (.slice (some ⟨gb, 0, none⟩) (madeB 0 l).length capb) (by kernel_rfl) ?_
  (try simp only [Act.put, List.setIfInBounds_toArray, List.set_cons_zero, List.set_cons_succ])
  refine RS.t1 82 rfl (by kernel_rfl) (.int .i64 ((madeB 0 l).length : Int)) (by kernel_rfl) ?_
  (try simp only [Act.put, List.setIfInBounds_toArray, List.set_cons_zero, List.set_cons_succ])
  refine RS.t1 83 rfl (by kernel_rfl) (.int .u64 ((madeB 0 l).length : Int)) (n_conv (by have := HML.out; omega) Try.underlying3 Try.underlying26 rfl (by kernel_rfl)) ?_
  (try simp only [Act.put, List.setIfInBounds_toArray, List.set_cons_zero, List.set_cons_succ])
  refine RS.t1 84 rfl (by kernel_rfl) (.int .u64 (((madeB 0 l).length + 1 : Nat) : Int)) (u_add (a := (madeB 0 l).length) (b := 1) (by have := HML.out; omega) rfl (by kernel_rfl) (by kernel_rfl)) ?_
  (try simp only [Act.put, List.setIfInBounds_toArray, List.set_cons_zero, List.set_cons_succ])
  refine RS.t1 85 rfl (by kernel_rfl) (.pointer (some ⟨g16, 1, none⟩)) (by kernel_rfl) ?_
  (try simp only [Act.put, List.setIfInBounds_toArray, List.set_cons_zero, List.set_cons_succ])
  refine RS.tS rfl (by kernel_rfl) (st (ad := ⟨g16, 1, none⟩) (u := .int .u64 ((0 + 24 * (l.length + 1) : Nat) : Int)) (v := .int .u64 (((madeB 0 l).length + 1 : Nat) : Int)) (by kernel_rfl) rfl ((bC_ N116_.out 1).trans rfl) (bF_ N116_.out 1) rfl (by kernel_rfl) (by kernel_rfl)) ?_
  obtain ⟨w117_, hw_⟩ : ∃ w_, w111_.setCell ⟨g16, 1, none⟩ (.int .u64 (((madeB 0 l).length + 1 : Nat) : Int)) = w_ := ⟨_, rfl⟩
  rw [hw_]
  have B118_ := Aside0.mk (show Below wm.heap.size wm w117_ from by rw [← hw_]; exact B112_.out.trans (((Keeps.refl (fun k => k = g16) w111_).setCell ⟨g16, 1, none⟩ (.int .u64 (((madeB 0 l).length + 1 : Nat) : Int)) rfl).below B112_.out.size (fun k hk e => by have := G45_.out; omega)))
  have N119_ := Aside0.mk (show w117_.heap[g11]? = some (.cells #[.int .u32 2, .int .u64 0, .int .u64 ((24 * (l.length + 1) : Nat) : Int), .int .u32 2, .int .u64 24] 45 (0, 0)) from by rw [← hw_]; exact blk_far N113_.out E42_.out _)
  have N120_ := Aside0.mk (show w117_.heap[g12]? = some (.cells #[.int .u32 3, .int .u64 ((0 + 24 * (l.length + 1) : Nat) : Int), .int .u64 ((strP l).length : Int), .int .u32 0, .int .u64 0] 45 (0, 0)) from by rw [← hw_]; exact blk_far N114_.out E43_.out _)
  have N121_ := Aside0.mk (show w117_.heap[g13]? = some (.cells #[.int .u32 2, .int .u64 0, .int .u64 ((24 * (l.length + 1) : Nat) : Int), .int .u32 link, .int .u64 24] 45 (0, 0)) from by rw [← hw_]; exact blk_far N115_.out E44_.out _)
  have N122_ := Aside0.mk (show w117_.heap[g16]? = some (.cells #[.int .u32 3, .int .u64 (((madeB 0 l).length + 1 : Nat) : Int), .int .u64 ((strP l).length : Int), .int .u32 0, .int .u64 0] 45 (0, 0)) from by rw [← hw_]; exact (blk_set N116_.out 1 (.int .u64 (((madeB 0 l).length + 1 : Nat) : Int))).trans (by first | rfl | simp))
  clear hw_ B112_ N113_ N114_ N115_ N116_
  go_upto_region 16 with (fail)
  refine wp_region_lit ?_
  refine RS.t1 87 rfl (by kernel_rfl) (.slice (some ⟨gb, 0, none⟩) (madeB 0 l).length capb) (by kernel_rfl) ?_
  (try simp only [Act.put, List.setIfInBounds_toArray, List.set_cons_zero, List.set_cons_succ])
  refine RS.t1 88 rfl (by kernel_rfl) (.agg #[.int .u32 0, .int .u64 0, .int .u64 0, .int .u32 0, .int .u64 0]) (by kernel_rfl) ?_
  (try simp only [Act.put, List.setIfInBounds_toArray, List.set_cons_zero, List.set_cons_succ])
  refine RS.t1 89 rfl (by kernel_rfl) (.agg #[.int .u32 2, .int .u64 0, .int .u64 ((24 * (l.length + 1) : Nat) : Int), .int .u32 2, .int .u64 24]) (load_row (g := g11) N119_.out (Try.underlying45) rfl (by kernel_rfl) rfl (by kernel_rfl)) ?_
  (try simp only [Act.put, List.setIfInBounds_toArray, List.set_cons_zero, List.set_cons_succ])
  refine RS.t1 90 rfl (by kernel_rfl) (.agg #[.int .u32 3, .int .u64 (((madeB 0 l).length + 1 : Nat) : Int), .int .u64 ((strP l).length : Int), .int .u32 0, .int .u64 0]) (load_row (g := g16) N122_.out (Try.underlying45) rfl (by kernel_rfl) rfl (by kernel_rfl)) ?_
  (try simp only [Act.put, List.setIfInBounds_toArray, List.set_cons_zero, List.set_cons_succ])
  obtain ⟨gs4, hg_⟩ : ∃ g_, w117_.heap.size = g_ := ⟨_, rfl⟩
  refine RS.tE 91 rfl (by kernel_rfl) (v := .slice (some ⟨gs4, 0, none⟩) 3 3) ((show _ = Result.ok (.value (.slice (some ⟨w117_.heap.size, 0, none⟩) 3 3)) (w117_.alloc (.cells #[.int .u32 0, .int .u64 0, .int .u64 0, .int .u32 0, .int .u64 0, .int .u32 2, .int .u64 0, .int .u64 ((24 * (l.length + 1) : Nat) : Int), .int .u32 2, .int .u64 24, .int .u32 3, .int .u64 (((madeB 0 l).length + 1 : Nat) : Int), .int .u64 ((strP l).length : Int), .int .u32 0, .int .u64 0] 45 (0, 0))) from by kernel_rfl).trans (by rw [hg_])) ?_
  obtain ⟨w123_, hw_⟩ : ∃ w_, w117_.alloc (.cells #[.int .u32 0, .int .u64 0, .int .u64 0, .int .u32 0, .int .u64 0, .int .u32 2, .int .u64 0, .int .u64 ((24 * (l.length + 1) : Nat) : Int), .int .u32 2, .int .u64 24, .int .u32 3, .int .u64 (((madeB 0 l).length + 1 : Nat) : Int), .int .u64 ((strP l).length : Int), .int .u32 0, .int .u64 0] 45 (0, 0)) = w_ := ⟨_, rfl⟩
  rw [hw_]
  have hb_ : Below w117_.heap.size w117_ w123_ := by rw [← hw_]; exact bX_ (Below.refl _ _) _
  have hn_ : w123_.heap[gs4]? = some (.cells #[.int .u32 0, .int .u64 0, .int .u64 0, .int .u32 0, .int .u64 0, .int .u32 2, .int .u64 0, .int .u64 ((24 * (l.length + 1) : Nat) : Int), .int .u32 2, .int .u64 24, .int .u32 3, .int .u64 (((madeB 0 l).length + 1 : Nat) : Int), .int .u64 ((strP l).length : Int), .int .u32 0, .int .u64 0] 45 (0, 0)) := by rw [← hw_, ← hg_]; exact World.alloc_heap_new w117_ _
  have E124_ := Aside0.mk (show g11 ≠ gs4 from by have := blk_lt N119_.out; omega)
  have E125_ := Aside0.mk (show g12 ≠ gs4 from by have := blk_lt N120_.out; omega)
  have E126_ := Aside0.mk (show g13 ≠ gs4 from by have := blk_lt N121_.out; omega)
  have E127_ := Aside0.mk (show g16 ≠ gs4 from by have := blk_lt N122_.out; omega)
  have G128_ := Aside0.mk (show wm.heap.size ≤ gs4 from by have := B118_.out.size; omega)
  have B129_ := Aside0.mk (below_step B118_.out hb_)
  have N130_ := Aside0.mk (heap_below hb_ N119_.out)
  have N131_ := Aside0.mk (heap_below hb_ N120_.out)
  have N132_ := Aside0.mk (heap_below hb_ N121_.out)
  have N133_ := Aside0.mk (heap_below hb_ N122_.out)
  have N134_ := Aside0.mk hn_
  clear hw_ hb_ hn_ hg_ B118_ N119_ N120_ N121_ N122_
  have HR_ := Aside0.mk (C_of_block k45 (xs := secsG 24 3 2 0 ((24 * (l.length + 1) : Nat) : Int) (((madeB 0 l).length + 1 : Nat) : Int) ((strP l).length : Int)) N134_.out (Reps.K_of k45 (base := 0) (ok := fun _ => True) (Reps.c5 (k45_mkM _ _ _ z45) (Reps.c5 (k45_mkM _ _ _ ⟨2, 0, ((24 * (l.length + 1) : Nat) : Int), 2, 24⟩) (Reps.c5 (k45_mkM _ _ _ ⟨3, (((madeB 0 l).length + 1 : Nat) : Int), ((strP l).length : Int), 0, 0⟩) (Reps.none _ _))))) (by show (3 : Nat) ≤ 9223372036854775807; decide))
  (try simp only [Act.put, List.setIfInBounds_toArray, List.set_cons_zero, List.set_cons_succ])
  refine RS.t1 92 rfl (by kernel_rfl) (.agg #[.int .u64 0, .int .u64 0, .int .u64 0, .slice none 0 0, .slice (some ⟨gs4, 0, none⟩) 3 3]) (by kernel_rfl) ?_
  (try simp only [Act.put, List.setIfInBounds_toArray, List.set_cons_zero, List.set_cons_succ])
  refine RS.tC 93 rfl (by kernel_rfl) (show _ = Result.ok (Next.enter 10 #[.slice (some ⟨gb, 0, none⟩) (madeB 0 l).length capb, .agg #[.int .u64 0, .int .u64 0, .int .u64 0, .slice none 0 0, .slice (some ⟨gs4, 0, none⟩) 3 3]]) _ from by kernel_rfl) ?_
  refine (read_calls (some ⟨gb, 0, none⟩) capb (madeB 0 l) 0 0 0 none 0 0 (some ⟨gs4, 0, none⟩) 3 3 (secsG 24 3 2 0 ((24 * (l.length + 1) : Nat) : Int) (((madeB 0 l).length + 1 : Nat) : Int) ((strP l).length : Int)) w123_ (HO.out.met B129_.out).C HO.out.cap_le (by have := HML.out; omega) (BB_made _ HOK.out) (.inl (by rw [madeB_len]; omega)) HR_.out rfl (by decide) (secsG_ok HOK.out H60.out (by unfold Rg; decide) (by decide) (by decide) (by unfold Rg; have := H60.out; have := HML.out; omega))).mono ?_
  rintro e w135_ ⟨v_, rfl, hr⟩
  obtain ⟨A_4, c_4, rfl, -, -, hb_⟩ := hr.form
  generalize List.length _ = n_4
  clear hr HR_
  have B136_ := Aside0.mk (below_step B129_.out hb_)
  have N137_ := Aside0.mk (heap_below hb_ N130_.out)
  have N138_ := Aside0.mk (heap_below hb_ N131_.out)
  have N139_ := Aside0.mk (heap_below hb_ N132_.out)
  have N140_ := Aside0.mk (heap_below hb_ N133_.out)
  clear hb_ B129_ N130_ N131_ N132_ N133_
  refine ⟨_, rfl, ?_⟩
  (try simp only [Act.put, List.setIfInBounds_toArray, List.set_cons_zero, List.set_cons_succ])
  refine RS.t1 86 rfl (by kernel_rfl) (.tuple #[.slice A_4 n_4 c_4, .int .i64 (errR l 24 3 2 (((madeB 0 l).length + 1 : Nat) : Int))]) (by kernel_rfl) ?_
  (try simp only [Act.put, List.setIfInBounds_toArray, List.set_cons_zero, List.set_cons_succ])
  refine RS.t1 94 rfl (by kernel_rfl) (.slice A_4 n_4 c_4) (by kernel_rfl) ?_
  (try simp only [Act.put, List.setIfInBounds_toArray, List.set_cons_zero, List.set_cons_succ])
  refine RS.t1 95 rfl (by kernel_rfl) (.int .i64 (errR l 24 3 2 (((madeB 0 l).length + 1 : Nat) : Int))) (by kernel_rfl) ?_
  (try simp only [Act.put, List.setIfInBounds_toArray, List.set_cons_zero, List.set_cons_succ])
  refine RS.t1 21 rfl (by kernel_rfl) (.slice A_4 n_4 c_4) (by kernel_rfl) ?_
  (try simp only [Act.put, List.setIfInBounds_toArray, List.set_cons_zero, List.set_cons_succ])
  refine RS.t1 22 rfl (by kernel_rfl) (.int .i64 (errR l 24 3 2 (((madeB 0 l).length + 1 : Nat) : Int))) (by kernel_rfl) ?_
  (try simp only [Act.put, List.setIfInBounds_toArray, List.set_cons_zero, List.set_cons_succ])
  go_upto_region 17 with (fail)
  refine wp_region_lit ?_
  refine RS.t1 97 rfl (by kernel_rfl) (.slice (some ⟨gb, 0, none⟩) (madeB 0 l).length capb) (by kernel_rfl) ?_
  (try simp only [Act.put, List.setIfInBounds_toArray, List.set_cons_zero, List.set_cons_succ])
  obtain ⟨gs9, hg_⟩ : ∃ g_, w135_.heap.size = g_ := ⟨_, rfl⟩
  refine RS.tE 98 rfl (by kernel_rfl) (v := .slice (some ⟨gs9, 0, none⟩) 33 33) ((show _ = Result.ok (.value (.slice (some ⟨w135_.heap.size, 0, none⟩) 33 33)) (w135_.alloc (.cells (Array.flatten (Array.replicate 33 #[.int .u32 0, .int .u64 0, .int .u64 0, .int .u32 0, .int .u64 0])) 45 (0, 0))) from by kernel_rfl).trans (by rw [hg_])) ?_
  obtain ⟨w142_, hw_⟩ : ∃ w_, w135_.alloc (.cells (Array.flatten (Array.replicate 33 #[.int .u32 0, .int .u64 0, .int .u64 0, .int .u32 0, .int .u64 0])) 45 (0, 0)) = w_ := ⟨_, rfl⟩
  rw [hw_]
  have hb_ : Below w135_.heap.size w135_ w142_ := by rw [← hw_]; exact bX_ (Below.refl _ _) _
  have hn_ : w142_.heap[gs9]? = some (.cells (Array.flatten (Array.replicate 33 #[.int .u32 0, .int .u64 0, .int .u64 0, .int .u32 0, .int .u64 0])) 45 (0, 0)) := by rw [← hw_, ← hg_]; exact World.alloc_heap_new w135_ _
  have G143_ := Aside0.mk (show wm.heap.size ≤ gs9 from by have := B136_.out.size; omega)
  have B144_ := Aside0.mk (below_step B136_.out hb_)
  have N145_ := Aside0.mk hn_
  clear hw_ hb_ hn_ hg_ B136_
  have HR_ := Aside0.mk (C_of_block k45 (xs := List.replicate 33 z45) N145_.out (rep33 _) (by decide))
  (try simp only [Act.put, List.setIfInBounds_toArray, List.set_cons_zero, List.set_cons_succ])
  refine RS.t1 99 rfl (by kernel_rfl) (.agg #[.int .u64 0, .int .u64 0, .int .u64 0, .slice none 0 0, .slice (some ⟨gs9, 0, none⟩) 33 33]) (by kernel_rfl) ?_
  (try simp only [Act.put, List.setIfInBounds_toArray, List.set_cons_zero, List.set_cons_succ])
  refine RS.tC 100 rfl (by kernel_rfl) (show _ = Result.ok (Next.enter 10 #[.slice (some ⟨gb, 0, none⟩) (madeB 0 l).length capb, .agg #[.int .u64 0, .int .u64 0, .int .u64 0, .slice none 0 0, .slice (some ⟨gs9, 0, none⟩) 33 33]]) _ from by kernel_rfl) ?_
  refine (read_calls (some ⟨gb, 0, none⟩) capb (madeB 0 l) 0 0 0 none 0 0 (some ⟨gs9, 0, none⟩) 33 33 (List.replicate 33 z45) w142_ (HO.out.met B144_.out).C HO.out.cap_le (by have := HML.out; omega) (BB_made _ HOK.out) (.inl (by rw [madeB_len]; omega)) HR_.out rfl (by decide) (fun s hs => by rw [List.eq_of_mem_replicate hs]; unfold Sec45 Rg; decide)).mono ?_
  rintro e w146_ ⟨v_, rfl, hr⟩
  obtain ⟨A_9, c_9, rfl, -, -, hb_⟩ := hr.form
  generalize List.length _ = n_9
  clear hr HR_
  have B147_ := Aside0.mk (below_step B144_.out hb_)
  clear hb_ B144_
  refine ⟨_, rfl, ?_⟩
  (try simp only [Act.put, List.setIfInBounds_toArray, List.set_cons_zero, List.set_cons_succ])
  refine RS.t1 96 rfl (by kernel_rfl) (.tuple #[.slice A_9 n_9 c_9, .int .i64 2]) (by kernel_rfl) ?_
  (try simp only [Act.put, List.setIfInBounds_toArray, List.set_cons_zero, List.set_cons_succ])
  refine RS.t1 101 rfl (by kernel_rfl) (.slice A_9 n_9 c_9) (by kernel_rfl) ?_
  (try simp only [Act.put, List.setIfInBounds_toArray, List.set_cons_zero, List.set_cons_succ])
  refine RS.t1 102 rfl (by kernel_rfl) (.int .i64 2) (by kernel_rfl) ?_
  (try simp only [Act.put, List.setIfInBounds_toArray, List.set_cons_zero, List.set_cons_succ])
  refine RS.t1 23 rfl (by kernel_rfl) (.slice A_9 n_9 c_9) (by kernel_rfl) ?_
  (try simp only [Act.put, List.setIfInBounds_toArray, List.set_cons_zero, List.set_cons_succ])
  refine RS.t1 24 rfl (by kernel_rfl) (.int .i64 2) (by kernel_rfl) ?_
  (try simp only [Act.put, List.setIfInBounds_toArray, List.set_cons_zero, List.set_cons_succ])
  go_upto_region 18 with (fail)
  have F1 : ((each == 24) == (errR l each 3 2 ((0 + 24 * (l.length + 1) : Nat) : Int) == 0)) = true := by
    by_cases h : each = 24
    · rw [h, errR_ok HOK.out HZ.out H60.out]; rfl
    · rw [errR_each h]; simp [h]
  have F2 : ((kind == 3) == (errR l 24 kind 2 ((0 + 24 * (l.length + 1) : Nat) : Int) == 0)) = true := by
    by_cases h : kind = 3
    · rw [h, errR_ok HOK.out HZ.out H60.out]; rfl
    · rw [errR_kind h]; simp [h]
  have F3 : ((link == 2) == (errR l 24 3 link ((0 + 24 * (l.length + 1) : Nat) : Int) == 0)) = true := by
    by_cases h : link = 2
    · rw [h, errR_ok HOK.out HZ.out H60.out]; rfl
    · rw [errR_link HLK.out.1 h]; simp [h]
  have F4 : (errR l 24 3 2 (((madeB 0 l).length + 1 : Nat) : Int) == 33) = true := by rw [errR_place H60.out]; rfl
  have F5 : (errR l each 3 2 ((0 + 24 * (l.length + 1) : Nat) : Int) == 0) = false → (errR l each 3 2 ((0 + 24 * (l.length + 1) : Nat) : Int) == 32) = true := fun h0 => by
    by_cases h : each = 24
    · rw [h, errR_ok HOK.out HZ.out H60.out] at h0; cases h0
    · rw [errR_each h]; rfl
  by_cases h5 : (errR l each 3 2 ((0 + 24 * (l.length + 1) : Nat) : Int) == 0) = true
  · skip
    refine wp_region_lit ?_
    refine RS.t1 103 rfl (by kernel_rfl) (.int .u64 each) (by kernel_rfl) ?_
    (try simp only [Act.put, List.setIfInBounds_toArray, List.set_cons_zero, List.set_cons_succ])
    refine RS.t1 104 rfl (by kernel_rfl) (.bool (each == 24)) (c_eql (k := .u64) (a := each) (b := 24) (r := (each == 24)) rfl rfl (by kernel_rfl) (by kernel_rfl)) ?_
    (try simp only [Act.put, List.setIfInBounds_toArray, List.set_cons_zero, List.set_cons_succ])
    refine RS.t1 105 rfl (by kernel_rfl) (.int .i64 (errR l each 3 2 ((0 + 24 * (l.length + 1) : Nat) : Int))) (by kernel_rfl) ?_
    (try simp only [Act.put, List.setIfInBounds_toArray, List.set_cons_zero, List.set_cons_succ])
    refine RS.t1 106 rfl (by kernel_rfl) (.bool (errR l each 3 2 ((0 + 24 * (l.length + 1) : Nat) : Int) == 0)) (c_eql (k := .i64) (a := errR l each 3 2 ((0 + 24 * (l.length + 1) : Nat) : Int)) (b := 0) (r := (errR l each 3 2 ((0 + 24 * (l.length + 1) : Nat) : Int) == 0)) rfl rfl (by kernel_rfl) (by kernel_rfl)) ?_
    (try simp only [Act.put, List.setIfInBounds_toArray, List.set_cons_zero, List.set_cons_succ])
    refine RS.t1 107 rfl (by kernel_rfl) (.bool true) (b_eql (r := true) (F1) rfl (by kernel_rfl) (by kernel_rfl)) ?_
    (try simp only [Act.put, List.setIfInBounds_toArray, List.set_cons_zero, List.set_cons_succ])
    refine RS.t1 108 rfl (by kernel_rfl) (.bool true) (by kernel_rfl) ?_
    (try simp only [Act.put, List.setIfInBounds_toArray, List.set_cons_zero, List.set_cons_succ])
    refine RS.t1 109 rfl (by kernel_rfl) (.int .u32 kind) (by kernel_rfl) ?_
    (try simp only [Act.put, List.setIfInBounds_toArray, List.set_cons_zero, List.set_cons_succ])
    refine RS.t1 110 rfl (by kernel_rfl) (.bool (kind == 3)) (c_eql (k := .u32) (a := kind) (b := 3) (r := (kind == 3)) rfl rfl (by kernel_rfl) (by kernel_rfl)) ?_
    (try simp only [Act.put, List.setIfInBounds_toArray, List.set_cons_zero, List.set_cons_succ])
    refine RS.t1 111 rfl (by kernel_rfl) (.int .i64 (errR l 24 kind 2 ((0 + 24 * (l.length + 1) : Nat) : Int))) (by kernel_rfl) ?_
    (try simp only [Act.put, List.setIfInBounds_toArray, List.set_cons_zero, List.set_cons_succ])
    refine RS.t1 112 rfl (by kernel_rfl) (.bool (errR l 24 kind 2 ((0 + 24 * (l.length + 1) : Nat) : Int) == 0)) (c_eql (k := .i64) (a := errR l 24 kind 2 ((0 + 24 * (l.length + 1) : Nat) : Int)) (b := 0) (r := (errR l 24 kind 2 ((0 + 24 * (l.length + 1) : Nat) : Int) == 0)) rfl rfl (by kernel_rfl) (by kernel_rfl)) ?_
    (try simp only [Act.put, List.setIfInBounds_toArray, List.set_cons_zero, List.set_cons_succ])
    refine RS.t1 113 rfl (by kernel_rfl) (.bool true) (b_eql (r := true) (F2) rfl (by kernel_rfl) (by kernel_rfl)) ?_
    (try simp only [Act.put, List.setIfInBounds_toArray, List.set_cons_zero, List.set_cons_succ])
    refine RS.t1 114 rfl (by kernel_rfl) (.bool true) (by kernel_rfl) ?_
    (try simp only [Act.put, List.setIfInBounds_toArray, List.set_cons_zero, List.set_cons_succ])
    refine RS.t1 115 rfl (by kernel_rfl) (.bool true) (by kernel_rfl) ?_
    (try simp only [Act.put, List.setIfInBounds_toArray, List.set_cons_zero, List.set_cons_succ])
    refine RS.t1 116 rfl (by kernel_rfl) (.int .u32 link) (by kernel_rfl) ?_
    (try simp only [Act.put, List.setIfInBounds_toArray, List.set_cons_zero, List.set_cons_succ])
    refine RS.t1 117 rfl (by kernel_rfl) (.bool (link == 2)) (c_eql (k := .u32) (a := link) (b := 2) (r := (link == 2)) rfl rfl (by kernel_rfl) (by kernel_rfl)) ?_
    (try simp only [Act.put, List.setIfInBounds_toArray, List.set_cons_zero, List.set_cons_succ])
    refine RS.t1 118 rfl (by kernel_rfl) (.int .i64 (errR l 24 3 link ((0 + 24 * (l.length + 1) : Nat) : Int))) (by kernel_rfl) ?_
    (try simp only [Act.put, List.setIfInBounds_toArray, List.set_cons_zero, List.set_cons_succ])
    refine RS.t1 119 rfl (by kernel_rfl) (.bool (errR l 24 3 link ((0 + 24 * (l.length + 1) : Nat) : Int) == 0)) (c_eql (k := .i64) (a := errR l 24 3 link ((0 + 24 * (l.length + 1) : Nat) : Int)) (b := 0) (r := (errR l 24 3 link ((0 + 24 * (l.length + 1) : Nat) : Int) == 0)) rfl rfl (by kernel_rfl) (by kernel_rfl)) ?_
    (try simp only [Act.put, List.setIfInBounds_toArray, List.set_cons_zero, List.set_cons_succ])
    refine RS.t1 120 rfl (by kernel_rfl) (.bool true) (b_eql (r := true) (F3) rfl (by kernel_rfl) (by kernel_rfl)) ?_
    (try simp only [Act.put, List.setIfInBounds_toArray, List.set_cons_zero, List.set_cons_succ])
    refine RS.t1 121 rfl (by kernel_rfl) (.bool true) (by kernel_rfl) ?_
    (try simp only [Act.put, List.setIfInBounds_toArray, List.set_cons_zero, List.set_cons_succ])
    refine RS.t1 122 rfl (by kernel_rfl) (.bool true) (by kernel_rfl) ?_
    (try simp only [Act.put, List.setIfInBounds_toArray, List.set_cons_zero, List.set_cons_succ])
    refine RS.t1 123 rfl (by kernel_rfl) (.int .i64 (errR l 24 3 2 (((madeB 0 l).length + 1 : Nat) : Int))) (by kernel_rfl) ?_
    (try simp only [Act.put, List.setIfInBounds_toArray, List.set_cons_zero, List.set_cons_succ])
    refine RS.t1 124 rfl (by kernel_rfl) (.bool true) (c_eql (k := .i64) (a := errR l 24 3 2 (((madeB 0 l).length + 1 : Nat) : Int)) (b := 33) (r := true) F4 rfl (by kernel_rfl) (by kernel_rfl)) ?_
    (try simp only [Act.put, List.setIfInBounds_toArray, List.set_cons_zero, List.set_cons_succ])
    refine RS.t1 125 rfl (by kernel_rfl) (.bool true) (by kernel_rfl) ?_
    (try simp only [Act.put, List.setIfInBounds_toArray, List.set_cons_zero, List.set_cons_succ])
    refine RS.t1 126 rfl (by kernel_rfl) (.bool true) (by kernel_rfl) ?_
    (try simp only [Act.put, List.setIfInBounds_toArray, List.set_cons_zero, List.set_cons_succ])
    refine RS.t1 127 rfl (by kernel_rfl) (.int .i64 2) (by kernel_rfl) ?_
    (try simp only [Act.put, List.setIfInBounds_toArray, List.set_cons_zero, List.set_cons_succ])
    refine RS.t1 128 rfl (by kernel_rfl) (.bool true) (by kernel_rfl) ?_
    (try simp only [Act.put, List.setIfInBounds_toArray, List.set_cons_zero, List.set_cons_succ])
    refine RS.t1 129 rfl (by kernel_rfl) (.bool true) (by kernel_rfl) ?_
    (try simp only [Act.put, List.setIfInBounds_toArray, List.set_cons_zero, List.set_cons_succ])
    refine RS.t1 130 rfl (by kernel_rfl) (.bool true) (by kernel_rfl) ?_
    (try simp only [Act.put, List.setIfInBounds_toArray, List.set_cons_zero, List.set_cons_succ])
    refine RS.t1 131 rfl (by kernel_rfl) (.int .i64 (errR l each 3 2 ((0 + 24 * (l.length + 1) : Nat) : Int))) (by kernel_rfl) ?_
    (try simp only [Act.put, List.setIfInBounds_toArray, List.set_cons_zero, List.set_cons_succ])
    refine RS.t1 132 rfl (by kernel_rfl) (.bool true) (c_eql (k := .i64) (a := errR l each 3 2 ((0 + 24 * (l.length + 1) : Nat) : Int)) (b := 0) (r := true) h5 rfl (by kernel_rfl) (by kernel_rfl)) ?_
    (try simp only [Act.put, List.setIfInBounds_toArray, List.set_cons_zero, List.set_cons_succ])
    refine RS.t1 133 rfl (by kernel_rfl) (.bool true) (by kernel_rfl) ?_
    (try simp only [Act.put, List.setIfInBounds_toArray, List.set_cons_zero, List.set_cons_succ])
    refine RS.t0 134 rfl (by kernel_rfl) ?_
    (try simp only [Act.put, List.setIfInBounds_toArray, List.set_cons_zero, List.set_cons_succ])
    refine RS.t0 135 rfl (by kernel_rfl) ?_
    (try simp only [Act.put, List.setIfInBounds_toArray, List.set_cons_zero, List.set_cons_succ])
    refine RS.t1 136 rfl (by kernel_rfl) (.bool true) (by kernel_rfl) ?_
    (try simp only [Act.put, List.setIfInBounds_toArray, List.set_cons_zero, List.set_cons_succ])
    refine RS.t1 137 rfl (by kernel_rfl) (.bool true) (by kernel_rfl) ?_
    (try simp only [Act.put, List.setIfInBounds_toArray, List.set_cons_zero, List.set_cons_succ])
    refine RS.t1 138 rfl (by kernel_rfl) (.bool true) (by kernel_rfl) ?_
    (try simp only [Act.put, List.setIfInBounds_toArray, List.set_cons_zero, List.set_cons_succ])
    refine RS.tC 139 rfl (by kernel_rfl) (show _ = Result.ok (Next.enter 8 #[]) _ from by kernel_rfl) ?_
    refine (wakes_calls w146_).mono ?_
    rintro e w148_ ⟨rfl, hb_⟩
    have B149_ := Aside0.mk (below_step B147_.out hb_)
    clear hb_ B147_
    refine ⟨_, rfl, ?_⟩
    (try simp only [Act.put, List.setIfInBounds_toArray, List.set_cons_zero, List.set_cons_succ])
    refine RS.t1 140 rfl (by kernel_rfl) (.bool true) (by kernel_rfl) ?_
    (try simp only [Act.put, List.setIfInBounds_toArray, List.set_cons_zero, List.set_cons_succ])
    refine RS.t1 8 rfl (by kernel_rfl) (.bool true) (by kernel_rfl) ?_
    (try simp only [Act.put, List.setIfInBounds_toArray, List.set_cons_zero, List.set_cons_succ])
    go_wp2_with fail
    go_ret
    exact ⟨rfl, below_step HBM.out B149_.out⟩
  · have h5 := Bool.eq_false_iff.mpr h5
    skip
    refine wp_region_lit ?_
    refine RS.t1 103 rfl (by kernel_rfl) (.int .u64 each) (by kernel_rfl) ?_
    (try simp only [Act.put, List.setIfInBounds_toArray, List.set_cons_zero, List.set_cons_succ])
    refine RS.t1 104 rfl (by kernel_rfl) (.bool (each == 24)) (c_eql (k := .u64) (a := each) (b := 24) (r := (each == 24)) rfl rfl (by kernel_rfl) (by kernel_rfl)) ?_
    (try simp only [Act.put, List.setIfInBounds_toArray, List.set_cons_zero, List.set_cons_succ])
    refine RS.t1 105 rfl (by kernel_rfl) (.int .i64 (errR l each 3 2 ((0 + 24 * (l.length + 1) : Nat) : Int))) (by kernel_rfl) ?_
    (try simp only [Act.put, List.setIfInBounds_toArray, List.set_cons_zero, List.set_cons_succ])
    refine RS.t1 106 rfl (by kernel_rfl) (.bool (errR l each 3 2 ((0 + 24 * (l.length + 1) : Nat) : Int) == 0)) (c_eql (k := .i64) (a := errR l each 3 2 ((0 + 24 * (l.length + 1) : Nat) : Int)) (b := 0) (r := (errR l each 3 2 ((0 + 24 * (l.length + 1) : Nat) : Int) == 0)) rfl rfl (by kernel_rfl) (by kernel_rfl)) ?_
    (try simp only [Act.put, List.setIfInBounds_toArray, List.set_cons_zero, List.set_cons_succ])
    refine RS.t1 107 rfl (by kernel_rfl) (.bool true) (b_eql (r := true) (F1) rfl (by kernel_rfl) (by kernel_rfl)) ?_
    (try simp only [Act.put, List.setIfInBounds_toArray, List.set_cons_zero, List.set_cons_succ])
    refine RS.t1 108 rfl (by kernel_rfl) (.bool true) (by kernel_rfl) ?_
    (try simp only [Act.put, List.setIfInBounds_toArray, List.set_cons_zero, List.set_cons_succ])
    refine RS.t1 109 rfl (by kernel_rfl) (.int .u32 kind) (by kernel_rfl) ?_
    (try simp only [Act.put, List.setIfInBounds_toArray, List.set_cons_zero, List.set_cons_succ])
    refine RS.t1 110 rfl (by kernel_rfl) (.bool (kind == 3)) (c_eql (k := .u32) (a := kind) (b := 3) (r := (kind == 3)) rfl rfl (by kernel_rfl) (by kernel_rfl)) ?_
    (try simp only [Act.put, List.setIfInBounds_toArray, List.set_cons_zero, List.set_cons_succ])
    refine RS.t1 111 rfl (by kernel_rfl) (.int .i64 (errR l 24 kind 2 ((0 + 24 * (l.length + 1) : Nat) : Int))) (by kernel_rfl) ?_
    (try simp only [Act.put, List.setIfInBounds_toArray, List.set_cons_zero, List.set_cons_succ])
    refine RS.t1 112 rfl (by kernel_rfl) (.bool (errR l 24 kind 2 ((0 + 24 * (l.length + 1) : Nat) : Int) == 0)) (c_eql (k := .i64) (a := errR l 24 kind 2 ((0 + 24 * (l.length + 1) : Nat) : Int)) (b := 0) (r := (errR l 24 kind 2 ((0 + 24 * (l.length + 1) : Nat) : Int) == 0)) rfl rfl (by kernel_rfl) (by kernel_rfl)) ?_
    (try simp only [Act.put, List.setIfInBounds_toArray, List.set_cons_zero, List.set_cons_succ])
    refine RS.t1 113 rfl (by kernel_rfl) (.bool true) (b_eql (r := true) (F2) rfl (by kernel_rfl) (by kernel_rfl)) ?_
    (try simp only [Act.put, List.setIfInBounds_toArray, List.set_cons_zero, List.set_cons_succ])
    refine RS.t1 114 rfl (by kernel_rfl) (.bool true) (by kernel_rfl) ?_
    (try simp only [Act.put, List.setIfInBounds_toArray, List.set_cons_zero, List.set_cons_succ])
    refine RS.t1 115 rfl (by kernel_rfl) (.bool true) (by kernel_rfl) ?_
    (try simp only [Act.put, List.setIfInBounds_toArray, List.set_cons_zero, List.set_cons_succ])
    refine RS.t1 116 rfl (by kernel_rfl) (.int .u32 link) (by kernel_rfl) ?_
    (try simp only [Act.put, List.setIfInBounds_toArray, List.set_cons_zero, List.set_cons_succ])
    refine RS.t1 117 rfl (by kernel_rfl) (.bool (link == 2)) (c_eql (k := .u32) (a := link) (b := 2) (r := (link == 2)) rfl rfl (by kernel_rfl) (by kernel_rfl)) ?_
    (try simp only [Act.put, List.setIfInBounds_toArray, List.set_cons_zero, List.set_cons_succ])
    refine RS.t1 118 rfl (by kernel_rfl) (.int .i64 (errR l 24 3 link ((0 + 24 * (l.length + 1) : Nat) : Int))) (by kernel_rfl) ?_
    (try simp only [Act.put, List.setIfInBounds_toArray, List.set_cons_zero, List.set_cons_succ])
    refine RS.t1 119 rfl (by kernel_rfl) (.bool (errR l 24 3 link ((0 + 24 * (l.length + 1) : Nat) : Int) == 0)) (c_eql (k := .i64) (a := errR l 24 3 link ((0 + 24 * (l.length + 1) : Nat) : Int)) (b := 0) (r := (errR l 24 3 link ((0 + 24 * (l.length + 1) : Nat) : Int) == 0)) rfl rfl (by kernel_rfl) (by kernel_rfl)) ?_
    (try simp only [Act.put, List.setIfInBounds_toArray, List.set_cons_zero, List.set_cons_succ])
    refine RS.t1 120 rfl (by kernel_rfl) (.bool true) (b_eql (r := true) (F3) rfl (by kernel_rfl) (by kernel_rfl)) ?_
    (try simp only [Act.put, List.setIfInBounds_toArray, List.set_cons_zero, List.set_cons_succ])
    refine RS.t1 121 rfl (by kernel_rfl) (.bool true) (by kernel_rfl) ?_
    (try simp only [Act.put, List.setIfInBounds_toArray, List.set_cons_zero, List.set_cons_succ])
    refine RS.t1 122 rfl (by kernel_rfl) (.bool true) (by kernel_rfl) ?_
    (try simp only [Act.put, List.setIfInBounds_toArray, List.set_cons_zero, List.set_cons_succ])
    refine RS.t1 123 rfl (by kernel_rfl) (.int .i64 (errR l 24 3 2 (((madeB 0 l).length + 1 : Nat) : Int))) (by kernel_rfl) ?_
    (try simp only [Act.put, List.setIfInBounds_toArray, List.set_cons_zero, List.set_cons_succ])
    refine RS.t1 124 rfl (by kernel_rfl) (.bool true) (c_eql (k := .i64) (a := errR l 24 3 2 (((madeB 0 l).length + 1 : Nat) : Int)) (b := 33) (r := true) F4 rfl (by kernel_rfl) (by kernel_rfl)) ?_
    (try simp only [Act.put, List.setIfInBounds_toArray, List.set_cons_zero, List.set_cons_succ])
    refine RS.t1 125 rfl (by kernel_rfl) (.bool true) (by kernel_rfl) ?_
    (try simp only [Act.put, List.setIfInBounds_toArray, List.set_cons_zero, List.set_cons_succ])
    refine RS.t1 126 rfl (by kernel_rfl) (.bool true) (by kernel_rfl) ?_
    (try simp only [Act.put, List.setIfInBounds_toArray, List.set_cons_zero, List.set_cons_succ])
    refine RS.t1 127 rfl (by kernel_rfl) (.int .i64 2) (by kernel_rfl) ?_
    (try simp only [Act.put, List.setIfInBounds_toArray, List.set_cons_zero, List.set_cons_succ])
    refine RS.t1 128 rfl (by kernel_rfl) (.bool true) (by kernel_rfl) ?_
    (try simp only [Act.put, List.setIfInBounds_toArray, List.set_cons_zero, List.set_cons_succ])
    refine RS.t1 129 rfl (by kernel_rfl) (.bool true) (by kernel_rfl) ?_
    (try simp only [Act.put, List.setIfInBounds_toArray, List.set_cons_zero, List.set_cons_succ])
    refine RS.t1 130 rfl (by kernel_rfl) (.bool true) (by kernel_rfl) ?_
    (try simp only [Act.put, List.setIfInBounds_toArray, List.set_cons_zero, List.set_cons_succ])
    refine RS.t1 131 rfl (by kernel_rfl) (.int .i64 (errR l each 3 2 ((0 + 24 * (l.length + 1) : Nat) : Int))) (by kernel_rfl) ?_
    (try simp only [Act.put, List.setIfInBounds_toArray, List.set_cons_zero, List.set_cons_succ])
    refine RS.t1 132 rfl (by kernel_rfl) (.bool false) (c_eql (k := .i64) (a := errR l each 3 2 ((0 + 24 * (l.length + 1) : Nat) : Int)) (b := 0) (r := false) h5 rfl (by kernel_rfl) (by kernel_rfl)) ?_
    (try simp only [Act.put, List.setIfInBounds_toArray, List.set_cons_zero, List.set_cons_succ])
    refine RS.t1 133 rfl (by kernel_rfl) (.bool false) (by kernel_rfl) ?_
    (try simp only [Act.put, List.setIfInBounds_toArray, List.set_cons_zero, List.set_cons_succ])
    refine RS.t1 134 rfl (by kernel_rfl) (.int .i64 (errR l each 3 2 ((0 + 24 * (l.length + 1) : Nat) : Int))) (by kernel_rfl) ?_
    (try simp only [Act.put, List.setIfInBounds_toArray, List.set_cons_zero, List.set_cons_succ])
    refine RS.t1 135 rfl (by kernel_rfl) (.bool true) (c_eql (k := .i64) (a := errR l each 3 2 ((0 + 24 * (l.length + 1) : Nat) : Int)) (b := 32) (r := true) (F5 h5) rfl (by kernel_rfl) (by kernel_rfl)) ?_
    (try simp only [Act.put, List.setIfInBounds_toArray, List.set_cons_zero, List.set_cons_succ])
    refine RS.t1 136 rfl (by kernel_rfl) (.bool true) (by kernel_rfl) ?_
    (try simp only [Act.put, List.setIfInBounds_toArray, List.set_cons_zero, List.set_cons_succ])
    refine RS.t1 137 rfl (by kernel_rfl) (.bool true) (by kernel_rfl) ?_
    (try simp only [Act.put, List.setIfInBounds_toArray, List.set_cons_zero, List.set_cons_succ])
    refine RS.t1 138 rfl (by kernel_rfl) (.bool true) (by kernel_rfl) ?_
    (try simp only [Act.put, List.setIfInBounds_toArray, List.set_cons_zero, List.set_cons_succ])
    refine RS.tC 139 rfl (by kernel_rfl) (show _ = Result.ok (Next.enter 8 #[]) _ from by kernel_rfl) ?_
    refine (wakes_calls w146_).mono ?_
    rintro e w150_ ⟨rfl, hb_⟩
    have B151_ := Aside0.mk (below_step B147_.out hb_)
    clear hb_ B147_
    refine ⟨_, rfl, ?_⟩
    (try simp only [Act.put, List.setIfInBounds_toArray, List.set_cons_zero, List.set_cons_succ])
    refine RS.t1 140 rfl (by kernel_rfl) (.bool true) (by kernel_rfl) ?_
    (try simp only [Act.put, List.setIfInBounds_toArray, List.set_cons_zero, List.set_cons_succ])
    refine RS.t1 8 rfl (by kernel_rfl) (.bool true) (by kernel_rfl) ?_
    (try simp only [Act.put, List.setIfInBounds_toArray, List.set_cons_zero, List.set_cons_succ])
    go_wp2_with fail
    go_ret
    exact ⟨rfl, below_step HBM.out B151_.out⟩
end Go.Proofs.Ytgdhciilobnelaa.B
