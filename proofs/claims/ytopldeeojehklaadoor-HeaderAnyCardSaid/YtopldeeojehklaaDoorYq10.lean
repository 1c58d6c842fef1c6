/- header.Read. -/
import Derived.Test.YtopldeeojehklaaDoorYq9
import Derived.Lib.Bytes
namespace Go.Proofs.YtopldeeojehklaaDoor.B
open Go.RowKit Go.Lib Go.Proofs.YtopldeeojehklaaDoorW.PrintWords Go.Proofs.YtopldeeojehklaaDoorW.PrintLast Go.Proofs.YtopldeeojehklaaDoorW.PrintMore Go.RF
set_option linter.unusedVariables false
set_option linter.unusedSimpArgs false
attribute [local go_sem] Oper.semAt_some
attribute [local go_sem] max2_int min2_int max_two min_two
def badP (n fr many size : Nat) : Prop := 0 < many ∧ (n < fr ∨ n < fr + size * many)
instance (n fr many size : Nat) : Decidable (badP n fr many size) := by unfold badP; exact inferInstance
def eachE (n fr many size : Nat) : Int := if badP n fr many size then 33 else 0
def segsB (xs : List Int) (fr many : Nat) : List S30 := if badP xs.length fr many 56 then [] else segsP xs fr many
def secsB (xs : List Int) (fr many : Nat) : List S32 := if badP xs.length fr many 64 then [] else secsP xs fr many
def pl (xs : List Int) (i : Nat) : Int := fieldN xs (placesF.getD i (0, 0))
def rightP (xs : List Int) : Bool := right0 (pl xs 3) (pl xs 4) (pl xs 5) (pl xs 6) && mustOk xs 8
abbrev Hdr := Int × Int × Int × List S30 × List S32 × Int
def readP (xs : List Int) : Hdr :=
  if 131072 < xs.length then (0, 0, 0, [], [], 2)
  else if xs.length < 64 then (0, 0, 0, [], [], 30)
  else if xs.take 4 ≠ elfS then (0, 0, 0, [], [], 31)
  else if rightP xs = false then (0, 0, 0, [], [], 32)
  else if badP xs.length (pl xs 1).toNat (pl xs 3).toNat 56 ∨ badP xs.length (pl xs 2).toNat (pl xs 4).toNat 64 then (0, 0, 0, [], [], 33)
  else (pl xs 0, pl xs 1, pl xs 2, segsP xs (pl xs 1).toNat (pl xs 3).toNat, secsP xs (pl xs 2).toNat (pl xs 4).toNat, 0)
theorem row8_C {w : World} {ad : Addr} {xs : List Int} (h : Row8 w ad xs) (hn : xs.length ≤ 9223372036854775807) : Kd.C (Kd.int .u8) w (some ad) xs.length xs :=
  ⟨rfl, hn, fun _ => ⟨ad, rfl, fun j p hj => ⟨[.int .u8 p], rfl, rfl, fun i u hu => by
    cases i with
    | zero =>
      simp only [List.getElem?_cons_zero, Option.some.injEq] at hu
      subst hu
      have hjl := (List.getElem?_eq_some_iff.1 hj).1
      have := h j hjl
      rw [List.getD_eq_getElem?_getD, hj] at this
      simpa [Kd.int, Kd.scalar] using this
    | succ i => simp at hu⟩⟩⟩
theorem C_row8 {w : World} {A : Option Addr} {xs : List Int} (h : Kd.C (Kd.int .u8) w A xs.length xs) (hn : 0 < xs.length) : ∃ ad, A = some ad ∧ Row8 w ad xs := by
  obtain ⟨ad, e, hc⟩ := h.2.2 hn
  refine ⟨ad, e, fun j hj => ?_⟩
  obtain ⟨c, hcl, hK, hcell⟩ := hc j _ (List.getElem?_eq_getElem hj)
  have hK : c = [.int .u8 xs[j]] := hK
  have := hcell 0 (.int .u8 xs[j]) (by rw [hK]; rfl)
  rw [List.getD_eq_getElem?_getD, List.getElem?_eq_getElem hj]
  simpa [Kd.int, Kd.scalar] using this
theorem str_elf {xs : List Int} (h : xs = elfS) : strOfNums xs = { data := #[127, 69, 76, 70] } := by subst h; rfl
theorem elf_str {xs : List Int} (hb : BB xs) (hl : xs.length = 4) (h1 : (strOfNums xs).data.toList = [127, 69, 76, 70]) : xs = elfS := by
  rw [strOfNums_data] at h1
  match xs, hl with
  | [a, b, c, d], _ =>
    have h1 : [UInt8.ofNat a.toNat, UInt8.ofNat b.toNat, UInt8.ofNat c.toNat, UInt8.ofNat d.toNat] = [127, 69, 76, 70] := h1
    injection h1 with e1 h1
    injection h1 with e2 h1
    injection h1 with e3 h1
    injection h1 with e4 h1
    have conv : ∀ {x : Int} {u : UInt8}, 0 ≤ x → x < 256 → UInt8.ofNat x.toNat = u → x = (u.toNat : Int) := by
      intro x u h0 h1 e
      rw [← e, UInt8.toNat_ofNat']
      omega
    have ha := hb a (by simp); have hbb := hb b (by simp); have hc := hb c (by simp); have hd := hb d (by simp)
    rw [conv ha.1 ha.2 e1, conv hbb.1 hbb.2 e2, conv hc.1 hc.2 e3, conv hd.1 hd.2 e4]
    rfl
theorem pl_rg {xs : List Int} (hb : BB xs) (f : Nat × Nat) (h8 : f.2 ≤ 8) : 0 ≤ fieldN xs f ∧ fieldN xs f < 256 ^ f.2 := by
  have h := numLE_nn ((hb.drop f.1).take f.2)
  refine ⟨h.1, Int.lt_of_lt_of_le h.2 ?_⟩
  have : ((xs.drop f.1).take f.2).length ≤ f.2 := by rw [List.length_take]; omega
  have h2 := Nat.pow_le_pow_right (n := 256) (by decide) this
  have e : ∀ k : Nat, (256 : Int) ^ k = ((256 ^ k : Nat) : Int) := fun k => by rw [Int.natCast_pow]; rfl
  rw [e, e]
  omega
theorem any_segment (ad : Addr) (n c : Nat) (f1 f3 : Int) (xs : List Int) (w : World) (hT : Tab w) (hx : Row8 w ad xs) (hb : BB xs) (hn : xs.length = n) (hc : n ≤ c) (hn2 : n ≤ 131072) (h1 : 0 ≤ f1) (h3 : 0 ≤ f3) (hm : f3 ≤ 65535) :
    Calls Tryd.prog 27 #[.slice (some ad) n c, .int .u64 f1, .int .u64 f3, .int .i64 56, .func (.func 20) #[] #[]] w fun e w' => ∃ v, e = .returned (.tuple #[v, .int .i64 (eachE n f1.toNat f3.toNat 56)]) ∧ Kd.R k30 30 w' w.heap.size (fun _ => True) v (segsB xs f1.toNat f3.toNat) ∧ Below w.heap.size w w' := by
  obtain ⟨a, rfl⟩ : ∃ a : Nat, f1 = a := ⟨f1.toNat, by omega⟩
  obtain ⟨b, rfl⟩ : ∃ b : Nat, f3 = b := ⟨f3.toNat, by omega⟩
  simp only [Int.toNat_natCast]
  unfold eachE segsB
  rw [hn]
  by_cases hbad : badP n a b 56
  · rw [if_pos hbad, if_pos hbad]
    refine (each_segment_bad (some ad) n c a b w hbad.1 (by omega) hn2 hbad.2).mono ?_
    rintro e w' ⟨rfl, hb'⟩
    exact ⟨_, rfl, Kd.R_nil _ _ _ _ _, hb'⟩
  · rw [if_neg hbad, if_neg hbad]
    refine each_segment ad n c a b xs w hT hx hb hn hc hn2 (by omega) ?_
    unfold badP at hbad
    omega
theorem any_section (ad : Addr) (n c : Nat) (f1 f3 : Int) (xs : List Int) (w : World) (hT : Tab w) (hx : Row8 w ad xs) (hb : BB xs) (hn : xs.length = n) (hc : n ≤ c) (hn2 : n ≤ 131072) (h1 : 0 ≤ f1) (h3 : 0 ≤ f3) (hm : f3 ≤ 65535) :
    Calls Tryd.prog 28 #[.slice (some ad) n c, .int .u64 f1, .int .u64 f3, .int .i64 64, .func (.func 22) #[] #[]] w fun e w' => ∃ v, e = .returned (.tuple #[v, .int .i64 (eachE n f1.toNat f3.toNat 64)]) ∧ Kd.R k32 32 w' w.heap.size (fun _ => True) v (secsB xs f1.toNat f3.toNat) ∧ Below w.heap.size w w' := by
  obtain ⟨a, rfl⟩ : ∃ a : Nat, f1 = a := ⟨f1.toNat, by omega⟩
  obtain ⟨b, rfl⟩ : ∃ b : Nat, f3 = b := ⟨f3.toNat, by omega⟩
  simp only [Int.toNat_natCast]
  unfold eachE secsB
  rw [hn]
  by_cases hbad : badP n a b 64
  · rw [if_pos hbad, if_pos hbad]
    refine (each_section_bad (some ad) n c a b w hbad.1 (by omega) hn2 hbad.2).mono ?_
    rintro e w' ⟨rfl, hb'⟩
    exact ⟨_, rfl, Kd.R_nil _ _ _ _ _, hb'⟩
  · rw [if_neg hbad, if_neg hbad]
    refine each_section ad n c a b xs w hT hx hb hn hc hn2 (by omega) ?_
    unfold badP at hbad
    omega
theorem taken_at (ad : Addr) (n c : Nat) (xs : List Int) (w : World) (hT : Tab w) (hx : Row8 w ad xs) (hb : BB xs) (hn : xs.length = n) (hc : n ≤ c) (hm : 64 ≤ n) (hn2 : n ≤ 131072) :
    Calls Tryd.prog 25 #[.slice (some ad) n c, .slice (some ⟨0, 0, none⟩) 7 7] w fun e w' => ∃ v, e = .returned v ∧ w'.ownsRow w.heap.size 23 1 v 7 (nums .u64 [pl xs 0, pl xs 1, pl xs 2, pl xs 3, pl xs 4, pl xs 5, pl xs 6]) ∧ Below w.heap.size w w' := by
  subst hn
  exact taken_calls ad c xs 0 placesF w hT.1 hx hb hc (plaW.mono hm) (by decide) (by omega) (by have := hT.2.2.2.2; omega) (by have := World.block_lt_of_cell? w _ (hx 0 (by omega)); rwa [block_add] at this)
theorem right_at (ad : Addr) (n c gq cq : Nat) (xs : List Int) (r : Bool) (hr : rightP xs = r) (w : World) (hT : Tab w) (hx : Row8 w ad xs) (hb : BB xs) (hn : xs.length = n) (hc : n ≤ c) (hm : 64 ≤ n)
    (hX : ∀ j x, [pl xs 0, pl xs 1, pl xs 2, pl xs 3, pl xs 4, pl xs 5, pl xs 6][j]? = some x → w.cell? ⟨gq, j, none⟩ = some (.int .u64 x)) :
    Calls Tryd.prog 26 #[.slice (some ad) n c, .slice (some ⟨gq, 0, none⟩) 7 cq] w fun e w' => e = .returned (.bool r) ∧ Below w.heap.size w w' := by
  subst hr
  exact right_calls ad c n gq cq xs (pl xs 3) (pl xs 4) (pl xs 5) (pl xs 6) w hT hx hb hn hc hm ⟨hX 3 _ rfl, hX 4 _ rfl, hX 5 _ rfl, hX 6 _ rfl⟩
set_option maxHeartbeats 8000000 in
set_option maxRecDepth 100000 in
theorem read_big (A : Option Addr) (n c : Nat) (w : World) (hn : 131072 < n) : Calls Tryd.prog 10 #[.slice A n c] w fun e w' => e = .returned (.tuple #[.agg #[.int .u64 0, .int .u64 0, .int .u64 0, .slice none 0 0, .slice none 0 0], .int .i64 2]) ∧ Below w.heap.size w w' := by
  have hu := Tryd.underlying27
  have hlt : decide ((131072 : Int) < (n : Int)) = true := decide_eq_true (by omega)
  go_enter Tryd.func10, Tryd.ntmps10
  go_wp2_with fail
  have h0 := World.alloc_heap_new w (.cells #[.int .u64 0, .int .u64 0, .int .u64 0, .slice none 0 0, .slice none 0 0] 27)
  exact bodyPost_ret (results_ctB rfl _ _ w.heap.size 27 #[.int .u64 0, .int .u64 0, .int .u64 0, .slice none 0 0, .slice none 0 0] (0, 0) _ rfl _ rfl h0 hu rfl (by kernel_rfl)) rfl ⟨rfl, bX_ (Below.refl _ _) _⟩
set_option maxHeartbeats 8000000 in
set_option maxRecDepth 100000 in
theorem read_less (A : Option Addr) (n c : Nat) (w : World) (hn : n < 64) : Calls Tryd.prog 10 #[.slice A n c] w fun e w' => e = .returned (.tuple #[.agg #[.int .u64 0, .int .u64 0, .int .u64 0, .slice none 0 0, .slice none 0 0], .int .i64 30]) ∧ Below w.heap.size w w' := by
  have hu := Tryd.underlying27
  have hlt : decide ((131072 : Int) < (n : Int)) = false := decide_eq_false (by omega)
  have hl2 : decide ((n : Int) < 64) = true := decide_eq_true (by omega)
  go_enter Tryd.func10, Tryd.ntmps10
  go_wp2_with fail
  have h0 := World.alloc_heap_new w (.cells #[.int .u64 0, .int .u64 0, .int .u64 0, .slice none 0 0, .slice none 0 0] 27)
  exact bodyPost_ret (results_ctB rfl _ _ w.heap.size 27 #[.int .u64 0, .int .u64 0, .int .u64 0, .slice none 0 0, .slice none 0 0] (0, 0) _ rfl _ rfl h0 hu rfl (by kernel_rfl)) rfl ⟨rfl, bX_ (Below.refl _ _) _⟩
def RdS (w0 : World) (g2 gq : Nat) (ad : Addr) (xs X : List Int) (w : World) : Prop :=
  w.heap[g2]? = some (.cells #[.int .u64 0, .int .u64 0, .int .u64 0, .slice none 0 0, .slice none 0 0] 27 (0, 0)) ∧ (∀ j x, X[j]? = some x → w.cell? ⟨gq, j, none⟩ = some (.int .u64 x)) ∧ Tab w ∧ Row8 w ad xs ∧ Below w0.heap.size w0 w
theorem RdS.met {w0 w w' : World} {g2 gq : Nat} {ad : Addr} {xs X : List Int} (h : RdS w0 g2 gq ad xs X w) (hb : Below w.heap.size w w') : RdS w0 g2 gq ad xs X w' :=
  ⟨heap_below hb h.1, fun j x hx => pw_cell_below hb (h.2.1 j x hx), h.2.2.1.below hb, fun j hj => pw_cell_below hb (h.2.2.2.1 j hj), below_step h.2.2.2.2 hb⟩
theorem RdS.drew {w0 w : World} {g2 gq : Nat} {ad : Addr} {xs X : List Int} (h : RdS w0 g2 gq ad xs X w) : RdS w0 g2 gq ad xs X { w with drawn := w.drawn + 1 } :=
  ⟨h.1, h.2.1, h.2.2.1, h.2.2.2.1, bY_ h.2.2.2.2⟩
theorem slice_to4 (ad : Addr) (n c : Nat) (h : 4 ≤ n) (hc : n ≤ c) (W : World) : (Instr.slice 22 (.slice (some ad) n c) none (some (.int .i64 4)) none).run Tryd.prog W = .ok (.slice (some ad) 4 c) W := by
  have hu : Tryd.prog.underlying 22 = some (.slice 5) := by kernel_rfl
  have hcl : Tryd.prog.cellsOf 5 = 1 := by kernel_rfl
  have h2 : (4 : Int) ≤ (c : Int) := by omega
  go_simp
theorem run_slice_h4 {o : Oper} {ρ : Operand → Value} {x : Operand} {a v : Value} {w : World} (ho : o.op = .slice 22 x none (some (.const (.int .i64 4))) none) (hx : ρ x = a) (h : (Instr.slice 22 a none (some (.int .i64 4)) none).run Tryd.prog w = .ok v w) (hc : ρ (.const (.int .i64 4)) = .int .i64 4 := by rfl) :
    (execOp ρ o).run Tryd.prog w = .ok (.value v) w := by
  have hu : Tryd.prog.underlying 22 = some (.slice (Tryd.prog.elem 22)) := by kernel_rfl
  unfold execOp
  simp only [ho, Option.map_some, Option.map_none, hx, hc, Sem.run_bind, run_sliceAt_slice _ _ _ _ _ _ hu, h, Result.andThen_ok, Sem.run_pure]
theorem run_conv {o : Oper} {ρ : Operand → Value} {x : Operand} {a v : Value} {w : World} (ho : o.op = .convert 22 9 x) (hx : ρ x = a) (h : (convert 22 9 a).run Tryd.prog w = .ok v w) : (execOp ρ o).run Tryd.prog w = .ok (.value v) w := by
  unfold execOp
  simp only [ho, hx, Sem.run_bind, h, Result.andThen_ok, Sem.run_pure]
theorem conv4 {w : World} {ad : Addr} {xs : List Int} {c : Nat} (h : Row8 w ad xs) (hn : 4 ≤ xs.length) : (convert 22 9 (.slice (some ad) 4 c)).run Tryd.prog w = .ok (.string (strOfNums (xs.take 4))) w := by
  have hl : (xs.take 4).length = 4 := by rw [List.length_take]; omega
  have hr : Row8 w ad (xs.take 4) := fun j hj => by
    rw [h j (by omega)]
    simp only [List.getD_eq_getElem?_getD, List.getElem?_take]
    rw [if_pos (by omega)]
  have := Kd.C_string (P := Tryd.prog) (src := 22) (dst := 9) (e := 5) (c := c) Tryd.underlying22 Tryd.underlying5 Tryd.underlying9 (row8_C hr (by omega))
  rw [hl] at this
  exact this
theorem neqs_f {s : ByteArray} (h : s = { data := #[127, 69, 76, 70] }) (w : World) : (binOp .neq 9 (.string s) (.string { data := #[127, 69, 76, 70] })).run Tryd.prog w = .ok (.bool false) w := by subst h; kernel_rfl
theorem neqs_t {s : ByteArray} (h : s.data.toList ≠ [127, 69, 76, 70]) (w : World) : (binOp .neq 9 (.string s) (.string { data := #[127, 69, 76, 70] })).run Tryd.prog w = .ok (.bool true) w := by
  simp [binOp, Op.equal, Op.stringOp]
  rw [toList_data]
  exact h
set_option maxHeartbeats 8000000 in
set_option maxRecDepth 100000 in
theorem read_magic (ad : Addr) (n c : Nat) (xs : List Int) (w : World) (hT : Tab w) (hx : Row8 w ad xs) (hb : BB xs) (hn : xs.length = n) (hc : n ≤ c) (hm : 64 ≤ n) (hn2 : n ≤ 131072) (h4 : xs.take 4 ≠ elfS) : Calls Tryd.prog 10 #[.slice (some ad) n c] w fun e w' => e = .returned (.tuple #[.agg #[.int .u64 0, .int .u64 0, .int .u64 0, .slice none 0 0, .slice none 0 0], .int .i64 31]) ∧ Below w.heap.size w w' := by
  have hu := Tryd.underlying27
  have HIN := Aside0.mk (show (Tryd.prog.info? 27).map (·.size) = some (#[.int .u64 0, .int .u64 0, .int .u64 0, .slice none 0 0, .slice none 0 0] : Array Value).size by kernel_rfl)
  have HONE := Aside0.mk (show (#[.int .u64 0, .int .u64 0, .int .u64 0, .slice none 0 0, .slice none 0 0] : Array Value).all (·.oneCell') = true by simp [Value.oneCell'])
  have HT := Aside0.mk hT
  have HX := Aside0.mk hx
  have HB := Aside0.mk hb
  have HN := Aside0.mk hn
  have H4 := Aside0.mk h4
  have HM := Aside0.mk (And.intro hm hn2)
  have HC := Aside0.mk hc
  have hlt : decide ((131072 : Int) < (n : Int)) = false := decide_eq_false (by omega)
  have hl2 : decide ((n : Int) < 64) = false := decide_eq_false (by omega)
  clear hT hx hb hn h4
  go_enter Tryd.func10, Tryd.ntmps10
  go_upto_region 5 with (fail)
  clear hlt hl2
  have hb1 : Below w.heap.size w (w.alloc (.cells #[.int .u64 0, .int .u64 0, .int .u64 0, .slice none 0 0, .slice none 0 0] 27)) := bX_ (Below.refl _ _) _
  have h1 := World.alloc_heap_new w (.cells #[.int .u64 0, .int .u64 0, .int .u64 0, .slice none 0 0, .slice none 0 0] 27)
  generalize w.alloc (.cells #[.int .u64 0, .int .u64 0, .int .u64 0, .slice none 0 0, .slice none 0 0] 27) = w1 at *
  obtain ⟨g2, hg2⟩ : ∃ g2, w.heap.size = g2 := ⟨_, rfl⟩
  have HS := Aside0.mk (show RdS w g2 0 ad xs [] w1 from ⟨by rw [← hg2]; exact h1, fun j x hx => by simp at hx, HT.out.below hb1, fun j hj => pw_cell_below hb1 (HX.out j hj), hb1⟩)
  have HG2 := Aside0.mk hg2
  (try rw [hg2])
  clear h1 hb1 hg2
  refine RS.wp_text [(19, .slice (some ad) n c), (20, .slice (some ad) 4 c), (21, .string (strOfNums (xs.take 4))), (22, .bool true), (18, .bool true)] (RdS w g2 0 ad xs []) (by kernel_rfl) (by kernel_rfl) HS.out ?_ ?_
  · exact ⟨RS.StepOK.pure 19 (by kernel_rfl) rfl (fun w => by kernel_rfl),
      RS.StepOK.load 20 (.slice (some ad) 4 c) (by kernel_rfl) (by kernel_rfl) rfl (fun w hS => run_slice_h4 rfl (by kernel_rfl) (slice_to4 ad n c (by omega) hc w)),
      RS.StepOK.load 21 (.string (strOfNums (xs.take 4))) (by kernel_rfl) (by kernel_rfl) rfl (fun w hS => run_conv rfl (by kernel_rfl) (conv4 (c := c) (hS.2.2.2.1) (by rw [HN.out]; omega))),
      RS.StepOK.load 22 (.bool true) (by kernel_rfl) (by kernel_rfl) rfl (fun w hS => run_bin rfl (by kernel_rfl) (by kernel_rfl) (by kernel_rfl) (neqs_t (fun e => H4.out (elf_str (HB.out.take 4) (by rw [List.length_take, HN.out]; omega) e)) w)),
      RS.StepOK.pure 18 (by kernel_rfl) rfl (fun w => by kernel_rfl), trivial⟩
  rintro w2 hs
  clear HS
  have HS := Aside0.mk hs
  clear hs
  (try simp only [RS.sets, List.setIfInBounds_toArray, List.set_cons_zero, List.set_cons_succ])
  have G := Aside0.mk HS.out.1
  go_wp2_with (first | (with_reducible refine wpList_load_row rfl 27 (.tmp 2) rfl g2 rfl 27 #[.int .u64 0, .int .u64 0, .int .u64 0, .slice none 0 0, .slice none 0 0] (0, 0) _ G.out hu rfl HIN.out ?_) | (with_reducible refine wpList_store_row rfl 27 (.tmp 2) (.tmp 23) rfl g2 #[.int .u64 0, .int .u64 0, .int .u64 0, .slice none 0 0, .slice none 0 0] rfl rfl 27 #[.int .u64 0, .int .u64 0, .int .u64 0, .slice none 0 0, .slice none 0 0] G.out HIN.out rfl HONE.out ?_))
  exact bodyPost_ret (results_ctB rfl _ _ g2 27 #[.int .u64 0, .int .u64 0, .int .u64 0, .slice none 0 0, .slice none 0 0] (0, 0) _ rfl _ rfl (setRow_heap w2 g2 _ _ 27 (0, 0) G.out) hu rfl (by kernel_rfl)) rfl ⟨rfl, below_setRow HS.out.2.2.2.2 (by have := HG2.out; omega) _⟩
set_option maxHeartbeats 8000000 in
set_option maxRecDepth 100000 in
theorem read_kind (ad : Addr) (n c : Nat) (xs : List Int) (w : World) (hT : Tab w) (hx : Row8 w ad xs) (hb : BB xs) (hn : xs.length = n) (hc : n ≤ c) (hm : 64 ≤ n) (hn2 : n ≤ 131072) (h4 : xs.take 4 = elfS) (hr : rightP xs = false) : Calls Tryd.prog 10 #[.slice (some ad) n c] w fun e w' => e = .returned (.tuple #[.agg #[.int .u64 0, .int .u64 0, .int .u64 0, .slice none 0 0, .slice none 0 0], .int .i64 32]) ∧ Below w.heap.size w w' := by
  have hu := Tryd.underlying27
  have HIN := Aside0.mk (show (Tryd.prog.info? 27).map (·.size) = some (#[.int .u64 0, .int .u64 0, .int .u64 0, .slice none 0 0, .slice none 0 0] : Array Value).size by kernel_rfl)
  have HONE := Aside0.mk (show (#[.int .u64 0, .int .u64 0, .int .u64 0, .slice none 0 0, .slice none 0 0] : Array Value).all (·.oneCell') = true by simp [Value.oneCell'])
  have HT := Aside0.mk hT
  have HX := Aside0.mk hx
  have HB := Aside0.mk hb
  have HN := Aside0.mk hn
  have H4 := Aside0.mk h4
  have HM := Aside0.mk (And.intro hm hn2)
  have HC := Aside0.mk hc
  have hlt : decide ((131072 : Int) < (n : Int)) = false := decide_eq_false (by omega)
  have hl2 : decide ((n : Int) < 64) = false := decide_eq_false (by omega)
  clear hT hx hb hn h4
  go_enter Tryd.func10, Tryd.ntmps10
  go_upto_region 5 with (fail)
  clear hlt hl2
  have hb1 : Below w.heap.size w (w.alloc (.cells #[.int .u64 0, .int .u64 0, .int .u64 0, .slice none 0 0, .slice none 0 0] 27)) := bX_ (Below.refl _ _) _
  have h1 := World.alloc_heap_new w (.cells #[.int .u64 0, .int .u64 0, .int .u64 0, .slice none 0 0, .slice none 0 0] 27)
  generalize w.alloc (.cells #[.int .u64 0, .int .u64 0, .int .u64 0, .slice none 0 0, .slice none 0 0] 27) = w1 at *
  obtain ⟨g2, hg2⟩ : ∃ g2, w.heap.size = g2 := ⟨_, rfl⟩
  have HS := Aside0.mk (show RdS w g2 0 ad xs [] w1 from ⟨by rw [← hg2]; exact h1, fun j x hx => by simp at hx, HT.out.below hb1, fun j hj => pw_cell_below hb1 (HX.out j hj), hb1⟩)
  have HG2 := Aside0.mk hg2
  (try rw [hg2])
  clear h1 hb1 hg2
  refine RS.wp_text [(19, .slice (some ad) n c), (20, .slice (some ad) 4 c), (21, .string (strOfNums (xs.take 4))), (22, .bool false), (18, .bool false)] (RdS w g2 0 ad xs []) (by kernel_rfl) (by kernel_rfl) HS.out ?_ ?_
  · exact ⟨RS.StepOK.pure 19 (by kernel_rfl) rfl (fun w => by kernel_rfl),
      RS.StepOK.load 20 (.slice (some ad) 4 c) (by kernel_rfl) (by kernel_rfl) rfl (fun w hS => run_slice_h4 rfl (by kernel_rfl) (slice_to4 ad n c (by omega) hc w)),
      RS.StepOK.load 21 (.string (strOfNums (xs.take 4))) (by kernel_rfl) (by kernel_rfl) rfl (fun w hS => run_conv rfl (by kernel_rfl) (conv4 (c := c) (hS.2.2.2.1) (by rw [HN.out]; omega))),
      RS.StepOK.load 22 (.bool false) (by kernel_rfl) (by kernel_rfl) rfl (fun w hS => run_bin rfl (by kernel_rfl) (by kernel_rfl) (by kernel_rfl) (neqs_f (str_elf H4.out) w)),
      RS.StepOK.pure 18 (by kernel_rfl) rfl (fun w => by kernel_rfl), trivial⟩
  rintro w2 hs
  clear HS
  have HS := Aside0.mk hs
  clear hs
  (try simp only [RS.sets, List.setIfInBounds_toArray, List.set_cons_zero, List.set_cons_succ])
  go_upto_region 8 with (go_at_call 25; refine (taken_at ad n c xs _ HS.out.2.2.1 HS.out.2.2.2.1 HB.out HN.out hc hm hn2).mono ?_; rintro e w3 ⟨v, rfl, ho, hb3⟩)
  obtain ⟨gq, cq, rfl, hgq, hcq⟩ := own_cells64 ho (by decide) rfl
  have HS3 := Aside0.mk (show RdS w g2 gq ad xs [(pl xs 0), (pl xs 1), (pl xs 2), (pl xs 3), (pl xs 4), (pl xs 5), (pl xs 6)] w3 from ⟨heap_below hb3 HS.out.1, hcq, (HS.out.met hb3).2.2⟩)
  have HGQ := Aside0.mk (show g2 < gq by have := (Array.getElem?_eq_some_iff.1 HS.out.1).1; omega)
  clear HS ho hgq hcq hb3
  go_upto_if 30 with (go_at_call 26; refine (right_at ad n c gq cq xs _ hr _ HS3.out.2.2.1 HS3.out.2.2.2.1 HB.out HN.out hc hm HS3.out.2.1).mono ?_; rintro e w4 ⟨rfl, hb4⟩)
  have HS4 := Aside0.mk (HS3.out.met hb4)
  clear HS3 hb4
  have G := Aside0.mk HS4.out.1
  go_wp2_with (first | (with_reducible refine wpList_load_row rfl 27 (.tmp 2) rfl g2 rfl 27 #[.int .u64 0, .int .u64 0, .int .u64 0, .slice none 0 0, .slice none 0 0] (0, 0) _ G.out hu rfl HIN.out ?_) | (with_reducible refine wpList_store_row rfl 27 (.tmp 2) (.tmp 31) rfl g2 #[.int .u64 0, .int .u64 0, .int .u64 0, .slice none 0 0, .slice none 0 0] rfl rfl 27 #[.int .u64 0, .int .u64 0, .int .u64 0, .slice none 0 0, .slice none 0 0] G.out HIN.out rfl HONE.out ?_))
  exact bodyPost_ret (results_ctB rfl _ _ g2 27 #[.int .u64 0, .int .u64 0, .int .u64 0, .slice none 0 0, .slice none 0 0] (0, 0) _ rfl _ rfl (setRow_heap w4 g2 _ _ 27 (0, 0) G.out) hu rfl (by kernel_rfl)) rfl ⟨rfl, below_setRow HS4.out.2.2.2.2 (by have := HG2.out; omega) _⟩
def RdA (w0 : World) (g2 gq : Nat) (ad : Addr) (xs X : List Int) (L : List S30) (k : Nat → Bool) (ch : Value) (w : World) : Prop :=
  RdS w0 g2 gq ad xs X w ∧ (k 7 = true → Kd.R k30 30 w w0.heap.size (fun _ => True) ch L)
def RdB (w0 : World) (g2 gq : Nat) (ad : Addr) (xs X : List Int) (v1 : Value) (L : List S30) (M : List S32) (k : Nat → Bool) (ch : Value) (w : World) : Prop :=
  RdS w0 g2 gq ad xs X w ∧ Kd.R k30 30 w w0.heap.size (fun _ => True) v1 L ∧ (k 7 = true → Kd.R k32 32 w w0.heap.size (fun _ => True) ch M)
def RdF (w0 : World) (g2 gq : Nat) (C : Array Value) (X : List Int) (v1 v2 : Value) (L : List S30) (M : List S32) (is : Nat) (k : Nat → Bool) (w : World) : Prop :=
  w.heap[g2]? = some (.cells (bif k is then C else #[.int .u64 0, .int .u64 0, .int .u64 0, .slice none 0 0, .slice none 0 0]) 27 (0, 0)) ∧ (∀ j x, X[j]? = some x → w.cell? ⟨gq, j, none⟩ = some (.int .u64 x)) ∧
  Kd.R k30 30 w w0.heap.size (fun k => k ≠ g2) v1 L ∧ Kd.R k32 32 w w0.heap.size (fun k => k ≠ g2) v2 M ∧ Below w0.heap.size w0 w
theorem pl2 {xs : List Int} (hb : BB xs) (f : Nat × Nat) (h : f.2 ≤ 2) : fieldN xs f ≤ 65535 := by
  have h1 := pl_rg hb f (by omega)
  have h2 : (256 : Int) ^ f.2 ≤ 256 ^ 2 := by
    have : f.2 = 0 ∨ f.2 = 1 ∨ f.2 = 2 := by omega
    rcases this with e | e | e <;> rw [e] <;> decide
  have e : (256 : Int) ^ 2 = 65536 := by decide
  omega
set_option maxHeartbeats 8000000 in
set_option maxRecDepth 100000 in
theorem read_p1 (ad : Addr) (n c : Nat) (xs : List Int) (w : World) (hT : Tab w) (hx : Row8 w ad xs) (hb : BB xs) (hn : xs.length = n) (hc : n ≤ c) (hm : 64 ≤ n) (hn2 : n ≤ 131072) (h4 : xs.take 4 = elfS) (hr : rightP xs = true) (he1 : eachE n (pl xs 1).toNat (pl xs 3).toNat 56 = 33) (he2 : eachE n (pl xs 2).toNat (pl xs 4).toNat 64 = 33) : Calls Tryd.prog 10 #[.slice (some ad) n c] w fun e w' => e = .returned (.tuple #[.agg #[.int .u64 0, .int .u64 0, .int .u64 0, .slice none 0 0, .slice none 0 0], .int .i64 33]) ∧ Below w.heap.size w w' := by
  have HE1 := Aside0.mk he1
  have HE2 := Aside0.mk he2
  clear he1 he2
  have hu := Tryd.underlying27
  have HIN := Aside0.mk (show (Tryd.prog.info? 27).map (·.size) = some (#[.int .u64 0, .int .u64 0, .int .u64 0, .slice none 0 0, .slice none 0 0] : Array Value).size by kernel_rfl)
  have HONE := Aside0.mk (show (#[.int .u64 0, .int .u64 0, .int .u64 0, .slice none 0 0, .slice none 0 0] : Array Value).all (·.oneCell') = true by simp [Value.oneCell'])
  have HT := Aside0.mk hT
  have HX := Aside0.mk hx
  have HB := Aside0.mk hb
  have HN := Aside0.mk hn
  have H4 := Aside0.mk h4
  have HM := Aside0.mk (And.intro hm hn2)
  have HC := Aside0.mk hc
  have hlt : decide ((131072 : Int) < (n : Int)) = false := decide_eq_false (by omega)
  have hl2 : decide ((n : Int) < 64) = false := decide_eq_false (by omega)
  clear hT hx hb hn h4
  go_enter Tryd.func10, Tryd.ntmps10
  go_upto_region 5 with (fail)
  clear hlt hl2
  have hb1 : Below w.heap.size w (w.alloc (.cells #[.int .u64 0, .int .u64 0, .int .u64 0, .slice none 0 0, .slice none 0 0] 27)) := bX_ (Below.refl _ _) _
  have h1 := World.alloc_heap_new w (.cells #[.int .u64 0, .int .u64 0, .int .u64 0, .slice none 0 0, .slice none 0 0] 27)
  generalize w.alloc (.cells #[.int .u64 0, .int .u64 0, .int .u64 0, .slice none 0 0, .slice none 0 0] 27) = w1 at *
  obtain ⟨g2, hg2⟩ : ∃ g2, w.heap.size = g2 := ⟨_, rfl⟩
  have HS := Aside0.mk (show RdS w g2 0 ad xs [] w1 from ⟨by rw [← hg2]; exact h1, fun j x hx => by simp at hx, HT.out.below hb1, fun j hj => pw_cell_below hb1 (HX.out j hj), hb1⟩)
  have HG2 := Aside0.mk hg2
  (try rw [hg2])
  clear h1 hb1 hg2
  refine RS.wp_text [(19, .slice (some ad) n c), (20, .slice (some ad) 4 c), (21, .string (strOfNums (xs.take 4))), (22, .bool false), (18, .bool false)] (RdS w g2 0 ad xs []) (by kernel_rfl) (by kernel_rfl) HS.out ?_ ?_
  · exact ⟨RS.StepOK.pure 19 (by kernel_rfl) rfl (fun w => by kernel_rfl),
      RS.StepOK.load 20 (.slice (some ad) 4 c) (by kernel_rfl) (by kernel_rfl) rfl (fun w hS => run_slice_h4 rfl (by kernel_rfl) (slice_to4 ad n c (by omega) hc w)),
      RS.StepOK.load 21 (.string (strOfNums (xs.take 4))) (by kernel_rfl) (by kernel_rfl) rfl (fun w hS => run_conv rfl (by kernel_rfl) (conv4 (c := c) (hS.2.2.2.1) (by rw [HN.out]; omega))),
      RS.StepOK.load 22 (.bool false) (by kernel_rfl) (by kernel_rfl) rfl (fun w hS => run_bin rfl (by kernel_rfl) (by kernel_rfl) (by kernel_rfl) (neqs_f (str_elf H4.out) w)),
      RS.StepOK.pure 18 (by kernel_rfl) rfl (fun w => by kernel_rfl), trivial⟩
  rintro w2 hs
  clear HS
  have HS := Aside0.mk hs
  clear hs
  (try simp only [RS.sets, List.setIfInBounds_toArray, List.set_cons_zero, List.set_cons_succ])
  go_upto_region 8 with (go_at_call 25; refine (taken_at ad n c xs _ HS.out.2.2.1 HS.out.2.2.2.1 HB.out HN.out hc hm hn2).mono ?_; rintro e w3 ⟨v, rfl, ho, hb3⟩)
  obtain ⟨gq, cq, rfl, hgq, hcq⟩ := own_cells64 ho (by decide) rfl
  have HS3 := Aside0.mk (show RdS w g2 gq ad xs [(pl xs 0), (pl xs 1), (pl xs 2), (pl xs 3), (pl xs 4), (pl xs 5), (pl xs 6)] w3 from ⟨heap_below hb3 HS.out.1, hcq, (HS.out.met hb3).2.2⟩)
  have HGQ := Aside0.mk (show g2 < gq by have := (Array.getElem?_eq_some_iff.1 HS.out.1).1; omega)
  clear HS ho hgq hcq hb3
  go_upto_if 30 with (go_at_call 26; refine (right_at ad n c gq cq xs _ hr _ HS3.out.2.2.1 HS3.out.2.2.2.1 HB.out HN.out hc hm HS3.out.2.1).mono ?_; rintro e w4 ⟨rfl, hb4⟩)
  have HS4 := Aside0.mk (HS3.out.met hb4)
  clear HS3 hb4
  go_upto_region 10 with (fail)
  refine RS.wp_choice (C := Value) (by kernel_rfl) (fun ch => [(40, .tuple #[ch, .int .i64 (eachE n (pl xs 1).toNat (pl xs 3).toNat 56)]), (32, .tuple #[ch, .int .i64 (eachE n (pl xs 1).toNat (pl xs 3).toNat 56)]), (41, ch), (5, ch)] ++ [(33, .slice (some ad) n c), (34, .slice (some ⟨gq, 0, none⟩) 7 cq), (35, .pointer (some ⟨gq, 1, none⟩)), (36, .int .u64 (pl xs 1)), (37, .slice (some ⟨gq, 0, none⟩) 7 cq), (38, .pointer (some ⟨gq, 3, none⟩)), (39, .int .u64 (pl xs 3)), (42, .int .i64 (eachE n (pl xs 1).toNat (pl xs 3).toNat 56)), (3, .int .i64 (eachE n (pl xs 1).toNat (pl xs 3).toNat 56))]) (RdA w g2 gq ad xs [pl xs 0, pl xs 1, pl xs 2, pl xs 3, pl xs 4, pl xs 5, pl xs 6] (segsB xs (pl xs 1).toNat (pl xs 3).toNat)) (by kernel_rfl) (fun ch => by kernel_rfl) undef (fun k hk => ?_) ?_ ?_
  · exact ⟨HS4.out.drew, fun e => (by rw [hk 7 (by decide)] at e; cases e)⟩
  · exact ⟨RS.StepC.of (fun ch => RS.StepE.pure 33 (by kernel_rfl) rfl (fun w => by kernel_rfl) (fun f w h => h)),
      RS.StepC.of (fun ch => RS.StepE.pure 34 (by kernel_rfl) rfl (fun w => by kernel_rfl) (fun f w h => h)),
      RS.StepC.of (fun ch => RS.StepE.load 35 (.pointer (some ⟨gq, 1, none⟩)) (by kernel_rfl) (by kernel_rfl) rfl (fun f w h => h) (fun k w p1 p2 h => run_indexAddr rfl (by kernel_rfl) (by kernel_rfl) (index_row gq 7 cq 1 (by decide) w))),
      RS.StepC.of (fun ch => RS.StepE.load 36 (.int .u64 (pl xs 1)) (by kernel_rfl) (by kernel_rfl) rfl (fun f w h => h) (fun k w p1 p2 h => run_load rfl (by kernel_rfl) (load_cell (k := .u64) Tryd.underlying23 (h.1.2.1 1 _ rfl)))),
      RS.StepC.of (fun ch => RS.StepE.pure 37 (by kernel_rfl) rfl (fun w => by kernel_rfl) (fun f w h => h)),
      RS.StepC.of (fun ch => RS.StepE.load 38 (.pointer (some ⟨gq, 3, none⟩)) (by kernel_rfl) (by kernel_rfl) rfl (fun f w h => h) (fun k w p1 p2 h => run_indexAddr rfl (by kernel_rfl) (by kernel_rfl) (index_row gq 7 cq 3 (by decide) w))),
      RS.StepC.of (fun ch => RS.StepE.load 39 (.int .u64 (pl xs 3)) (by kernel_rfl) (by kernel_rfl) rfl (fun f w h => h) (fun k w p1 p2 h => run_load rfl (by kernel_rfl) (load_cell (k := .u64) Tryd.underlying23 (h.1.2.1 3 _ rfl)))),
      RS.StepC.chooseCall 27 (fun ch => #[.slice (some ad) n c, .int .u64 (pl xs 1), .int .u64 (pl xs 3), .int .i64 56, .func (.func 20) #[] #[]]) (fun ch => by kernel_rfl) (fun ch w => by kernel_rfl) (fun k ch w h0 p1 p2 h => by
        have h0 : k 7 = false := h0
        have e8 : k 8 = false := p2 8 (by kernel_rfl) (by decide)
        have e9 : k 9 = false := p2 9 (by kernel_rfl) (by decide)
        have e11 : k 11 = false := p2 11 (by kernel_rfl) (by decide)
        refine (any_segment ad n c (pl xs 1) (pl xs 3) xs w h.1.2.2.1 h.1.2.2.2.1 HB.out HN.out hc hn2 (pl_rg HB.out _ (by decide)).1 (pl_rg HB.out _ (by decide)).1 (pl2 HB.out _ (by decide))).mono ?_
        rintro e w' ⟨v, rfl, hr', hb⟩
        refine ⟨_, v, rfl, fun d hd => by cases hd; kernel_rfl, RS.many_but (md := .any) [(7, 40), (8, 32), (9, 41), (11, 5)] (by kernel_rfl) rfl rfl (by kernel_rfl) (by simp [h0, e8, e9, e11]), h.1.met hb, fun _ => Kd.R_lower hr' h.1.2.2.2.2.size⟩),
      RS.StepC.of (fun ch => RS.StepE.pure 32 (by kernel_rfl) rfl (fun w => by kernel_rfl) (fun f w h => h)),
      RS.StepC.of (fun ch => RS.StepE.pure 41 (by kernel_rfl) rfl (fun w => by kernel_rfl) (fun f w h => h)),
      RS.StepC.of (fun ch => RS.StepE.pure 42 (by kernel_rfl) rfl (fun w => by kernel_rfl) (fun f w h => h)),
      RS.StepC.of (fun ch => RS.StepE.pure 5 (by kernel_rfl) rfl (fun w => by kernel_rfl) (fun f w h => h)),
      RS.StepC.of (fun ch => RS.StepE.pure 3 (by kernel_rfl) rfl (fun w => by kernel_rfl) (fun f w h => h)), trivial⟩
  rintro k v1 w5 hk hs
  clear HS4
  have HS4 := Aside0.mk hs.1
  have HV1 := Aside0.mk (hs.2 (hk _))
  clear hs hk
  (try simp only [List.cons_append, List.nil_append, RS.sets, List.setIfInBounds_toArray, List.set_cons_zero, List.set_cons_succ])
  go_upto_region 11 with (fail)
  refine RS.wp_choice (C := Value) (by kernel_rfl) (fun ch => [(51, .tuple #[ch, .int .i64 (eachE n (pl xs 2).toNat (pl xs 4).toNat 64)]), (43, .tuple #[ch, .int .i64 (eachE n (pl xs 2).toNat (pl xs 4).toNat 64)]), (52, ch), (6, ch)] ++ [(44, .slice (some ad) n c), (45, .slice (some ⟨gq, 0, none⟩) 7 cq), (46, .pointer (some ⟨gq, 2, none⟩)), (47, .int .u64 (pl xs 2)), (48, .slice (some ⟨gq, 0, none⟩) 7 cq), (49, .pointer (some ⟨gq, 4, none⟩)), (50, .int .u64 (pl xs 4)), (53, .int .i64 (eachE n (pl xs 2).toNat (pl xs 4).toNat 64)), (7, .int .i64 (eachE n (pl xs 2).toNat (pl xs 4).toNat 64))]) (RdB w g2 gq ad xs [pl xs 0, pl xs 1, pl xs 2, pl xs 3, pl xs 4, pl xs 5, pl xs 6] v1 (segsB xs (pl xs 1).toNat (pl xs 3).toNat) (secsB xs (pl xs 2).toNat (pl xs 4).toNat)) (by kernel_rfl) (fun ch => by kernel_rfl) undef (fun k hk => ?_) ?_ ?_
  · exact ⟨HS4.out.drew, Kd.R_drew HV1.out, fun e => (by rw [hk 7 (by decide)] at e; cases e)⟩
  · exact ⟨RS.StepC.of (fun ch => RS.StepE.pure 44 (by kernel_rfl) rfl (fun w => by kernel_rfl) (fun f w h => h)),
      RS.StepC.of (fun ch => RS.StepE.pure 45 (by kernel_rfl) rfl (fun w => by kernel_rfl) (fun f w h => h)),
      RS.StepC.of (fun ch => RS.StepE.load 46 (.pointer (some ⟨gq, 2, none⟩)) (by kernel_rfl) (by kernel_rfl) rfl (fun f w h => h) (fun k w p1 p2 h => run_indexAddr rfl (by kernel_rfl) (by kernel_rfl) (index_row gq 7 cq 2 (by decide) w))),
      RS.StepC.of (fun ch => RS.StepE.load 47 (.int .u64 (pl xs 2)) (by kernel_rfl) (by kernel_rfl) rfl (fun f w h => h) (fun k w p1 p2 h => run_load rfl (by kernel_rfl) (load_cell (k := .u64) Tryd.underlying23 (h.1.2.1 2 _ rfl)))),
      RS.StepC.of (fun ch => RS.StepE.pure 48 (by kernel_rfl) rfl (fun w => by kernel_rfl) (fun f w h => h)),
      RS.StepC.of (fun ch => RS.StepE.load 49 (.pointer (some ⟨gq, 4, none⟩)) (by kernel_rfl) (by kernel_rfl) rfl (fun f w h => h) (fun k w p1 p2 h => run_indexAddr rfl (by kernel_rfl) (by kernel_rfl) (index_row gq 7 cq 4 (by decide) w))),
      RS.StepC.of (fun ch => RS.StepE.load 50 (.int .u64 (pl xs 4)) (by kernel_rfl) (by kernel_rfl) rfl (fun f w h => h) (fun k w p1 p2 h => run_load rfl (by kernel_rfl) (load_cell (k := .u64) Tryd.underlying23 (h.1.2.1 4 _ rfl)))),
      RS.StepC.chooseCall 28 (fun ch => #[.slice (some ad) n c, .int .u64 (pl xs 2), .int .u64 (pl xs 4), .int .i64 64, .func (.func 22) #[] #[]]) (fun ch => by kernel_rfl) (fun ch w => by kernel_rfl) (fun k ch w h0 p1 p2 h => by
        have h0 : k 7 = false := h0
        have e8 : k 8 = false := p2 8 (by kernel_rfl) (by decide)
        have e9 : k 9 = false := p2 9 (by kernel_rfl) (by decide)
        have e11 : k 11 = false := p2 11 (by kernel_rfl) (by decide)
        refine (any_section ad n c (pl xs 2) (pl xs 4) xs w h.1.2.2.1 h.1.2.2.2.1 HB.out HN.out hc hn2 (pl_rg HB.out _ (by decide)).1 (pl_rg HB.out _ (by decide)).1 (pl2 HB.out _ (by decide))).mono ?_
        rintro e w' ⟨v, rfl, hr', hb⟩
        refine ⟨_, v, rfl, fun d hd => by cases hd; kernel_rfl, RS.many_but (md := .any) [(7, 51), (8, 43), (9, 52), (11, 6)] (by kernel_rfl) rfl rfl (by kernel_rfl) (by simp [h0, e8, e9, e11]), h.1.met hb, Kd.R_below h.2.1 hb, fun _ => Kd.R_lower hr' h.1.2.2.2.2.size⟩),
      RS.StepC.of (fun ch => RS.StepE.pure 43 (by kernel_rfl) rfl (fun w => by kernel_rfl) (fun f w h => h)),
      RS.StepC.of (fun ch => RS.StepE.pure 52 (by kernel_rfl) rfl (fun w => by kernel_rfl) (fun f w h => h)),
      RS.StepC.of (fun ch => RS.StepE.pure 53 (by kernel_rfl) rfl (fun w => by kernel_rfl) (fun f w h => h)),
      RS.StepC.of (fun ch => RS.StepE.pure 6 (by kernel_rfl) rfl (fun w => by kernel_rfl) (fun f w h => h)),
      RS.StepC.of (fun ch => RS.StepE.pure 7 (by kernel_rfl) rfl (fun w => by kernel_rfl) (fun f w h => h)), trivial⟩
  rintro k v2 w5 hk hs
  clear HS4
  clear HV1
  have HS4 := Aside0.mk hs.1
  have HV1 := Aside0.mk hs.2.1
  have HV2 := Aside0.mk (hs.2.2 (hk _))
  clear hs hk
  (try simp only [List.cons_append, List.nil_append, RS.sets, List.setIfInBounds_toArray, List.set_cons_zero, List.set_cons_succ])
  simp only [HE1.out, HE2.out]
  go_upto_region 12 with (fail)
  refine RS.wp_text [(54, .int .i64 33), (55, .int .i64 33), (56, .int .i64 33), (57, .bool true)] (fun w' => w' = w5) (by kernel_rfl) (by kernel_rfl) rfl ?_ ?_
  · exact ⟨RS.StepOK.pure 54 (by kernel_rfl) rfl (fun w => by kernel_rfl),
      RS.StepOK.pure 55 (by kernel_rfl) rfl (fun w => by kernel_rfl),
      RS.StepOK.pure 56 (by kernel_rfl) rfl (fun w => by kernel_rfl),
      RS.StepOK.pure 57 (by kernel_rfl) rfl (fun w => by kernel_rfl), trivial⟩
  rintro w6 rfl
  (try simp only [RS.sets, List.setIfInBounds_toArray, List.set_cons_zero, List.set_cons_succ])
  have G := Aside0.mk HS4.out.1
  go_wp2_with (first | (with_reducible refine wpList_load_row rfl 27 (.tmp 2) rfl g2 rfl 27 #[.int .u64 0, .int .u64 0, .int .u64 0, .slice none 0 0, .slice none 0 0] (0, 0) _ G.out hu rfl HIN.out ?_) | (with_reducible refine wpList_store_row rfl 27 (.tmp 2) (.tmp 58) rfl g2 #[.int .u64 0, .int .u64 0, .int .u64 0, .slice none 0 0, .slice none 0 0] rfl rfl 27 #[.int .u64 0, .int .u64 0, .int .u64 0, .slice none 0 0, .slice none 0 0] G.out HIN.out rfl HONE.out ?_))
  exact bodyPost_ret (results_ctB rfl _ _ g2 27 #[.int .u64 0, .int .u64 0, .int .u64 0, .slice none 0 0, .slice none 0 0] (0, 0) _ rfl _ rfl (setRow_heap w6 g2 _ _ 27 (0, 0) G.out) hu rfl (by kernel_rfl)) rfl ⟨rfl, below_setRow HS4.out.2.2.2.2 (by have := HG2.out; omega) _⟩
set_option maxHeartbeats 8000000 in
set_option maxRecDepth 100000 in
theorem read_p2 (ad : Addr) (n c : Nat) (xs : List Int) (w : World) (hT : Tab w) (hx : Row8 w ad xs) (hb : BB xs) (hn : xs.length = n) (hc : n ≤ c) (hm : 64 ≤ n) (hn2 : n ≤ 131072) (h4 : xs.take 4 = elfS) (hr : rightP xs = true) (he1 : eachE n (pl xs 1).toNat (pl xs 3).toNat 56 = 33) (he2 : eachE n (pl xs 2).toNat (pl xs 4).toNat 64 = 0) : Calls Tryd.prog 10 #[.slice (some ad) n c] w fun e w' => e = .returned (.tuple #[.agg #[.int .u64 0, .int .u64 0, .int .u64 0, .slice none 0 0, .slice none 0 0], .int .i64 33]) ∧ Below w.heap.size w w' := by
  have HE1 := Aside0.mk he1
  have HE2 := Aside0.mk he2
  clear he1 he2
  have hu := Tryd.underlying27
  have HIN := Aside0.mk (show (Tryd.prog.info? 27).map (·.size) = some (#[.int .u64 0, .int .u64 0, .int .u64 0, .slice none 0 0, .slice none 0 0] : Array Value).size by kernel_rfl)
  have HONE := Aside0.mk (show (#[.int .u64 0, .int .u64 0, .int .u64 0, .slice none 0 0, .slice none 0 0] : Array Value).all (·.oneCell') = true by simp [Value.oneCell'])
  have HT := Aside0.mk hT
  have HX := Aside0.mk hx
  have HB := Aside0.mk hb
  have HN := Aside0.mk hn
  have H4 := Aside0.mk h4
  have HM := Aside0.mk (And.intro hm hn2)
  have HC := Aside0.mk hc
  have hlt : decide ((131072 : Int) < (n : Int)) = false := decide_eq_false (by omega)
  have hl2 : decide ((n : Int) < 64) = false := decide_eq_false (by omega)
  clear hT hx hb hn h4
  go_enter Tryd.func10, Tryd.ntmps10
  go_upto_region 5 with (fail)
  clear hlt hl2
  have hb1 : Below w.heap.size w (w.alloc (.cells #[.int .u64 0, .int .u64 0, .int .u64 0, .slice none 0 0, .slice none 0 0] 27)) := bX_ (Below.refl _ _) _
  have h1 := World.alloc_heap_new w (.cells #[.int .u64 0, .int .u64 0, .int .u64 0, .slice none 0 0, .slice none 0 0] 27)
  generalize w.alloc (.cells #[.int .u64 0, .int .u64 0, .int .u64 0, .slice none 0 0, .slice none 0 0] 27) = w1 at *
  obtain ⟨g2, hg2⟩ : ∃ g2, w.heap.size = g2 := ⟨_, rfl⟩
  have HS := Aside0.mk (show RdS w g2 0 ad xs [] w1 from ⟨by rw [← hg2]; exact h1, fun j x hx => by simp at hx, HT.out.below hb1, fun j hj => pw_cell_below hb1 (HX.out j hj), hb1⟩)
  have HG2 := Aside0.mk hg2
  (try rw [hg2])
  clear h1 hb1 hg2
  refine RS.wp_text [(19, .slice (some ad) n c), (20, .slice (some ad) 4 c), (21, .string (strOfNums (xs.take 4))), (22, .bool false), (18, .bool false)] (RdS w g2 0 ad xs []) (by kernel_rfl) (by kernel_rfl) HS.out ?_ ?_
  · exact ⟨RS.StepOK.pure 19 (by kernel_rfl) rfl (fun w => by kernel_rfl),
      RS.StepOK.load 20 (.slice (some ad) 4 c) (by kernel_rfl) (by kernel_rfl) rfl (fun w hS => run_slice_h4 rfl (by kernel_rfl) (slice_to4 ad n c (by omega) hc w)),
      RS.StepOK.load 21 (.string (strOfNums (xs.take 4))) (by kernel_rfl) (by kernel_rfl) rfl (fun w hS => run_conv rfl (by kernel_rfl) (conv4 (c := c) (hS.2.2.2.1) (by rw [HN.out]; omega))),
      RS.StepOK.load 22 (.bool false) (by kernel_rfl) (by kernel_rfl) rfl (fun w hS => run_bin rfl (by kernel_rfl) (by kernel_rfl) (by kernel_rfl) (neqs_f (str_elf H4.out) w)),
      RS.StepOK.pure 18 (by kernel_rfl) rfl (fun w => by kernel_rfl), trivial⟩
  rintro w2 hs
  clear HS
  have HS := Aside0.mk hs
  clear hs
  (try simp only [RS.sets, List.setIfInBounds_toArray, List.set_cons_zero, List.set_cons_succ])
  go_upto_region 8 with (go_at_call 25; refine (taken_at ad n c xs _ HS.out.2.2.1 HS.out.2.2.2.1 HB.out HN.out hc hm hn2).mono ?_; rintro e w3 ⟨v, rfl, ho, hb3⟩)
  obtain ⟨gq, cq, rfl, hgq, hcq⟩ := own_cells64 ho (by decide) rfl
  have HS3 := Aside0.mk (show RdS w g2 gq ad xs [(pl xs 0), (pl xs 1), (pl xs 2), (pl xs 3), (pl xs 4), (pl xs 5), (pl xs 6)] w3 from ⟨heap_below hb3 HS.out.1, hcq, (HS.out.met hb3).2.2⟩)
  have HGQ := Aside0.mk (show g2 < gq by have := (Array.getElem?_eq_some_iff.1 HS.out.1).1; omega)
  clear HS ho hgq hcq hb3
  go_upto_if 30 with (go_at_call 26; refine (right_at ad n c gq cq xs _ hr _ HS3.out.2.2.1 HS3.out.2.2.2.1 HB.out HN.out hc hm HS3.out.2.1).mono ?_; rintro e w4 ⟨rfl, hb4⟩)
  have HS4 := Aside0.mk (HS3.out.met hb4)
  clear HS3 hb4
  go_upto_region 10 with (fail)
  refine RS.wp_choice (C := Value) (by kernel_rfl) (fun ch => [(40, .tuple #[ch, .int .i64 (eachE n (pl xs 1).toNat (pl xs 3).toNat 56)]), (32, .tuple #[ch, .int .i64 (eachE n (pl xs 1).toNat (pl xs 3).toNat 56)]), (41, ch), (5, ch)] ++ [(33, .slice (some ad) n c), (34, .slice (some ⟨gq, 0, none⟩) 7 cq), (35, .pointer (some ⟨gq, 1, none⟩)), (36, .int .u64 (pl xs 1)), (37, .slice (some ⟨gq, 0, none⟩) 7 cq), (38, .pointer (some ⟨gq, 3, none⟩)), (39, .int .u64 (pl xs 3)), (42, .int .i64 (eachE n (pl xs 1).toNat (pl xs 3).toNat 56)), (3, .int .i64 (eachE n (pl xs 1).toNat (pl xs 3).toNat 56))]) (RdA w g2 gq ad xs [pl xs 0, pl xs 1, pl xs 2, pl xs 3, pl xs 4, pl xs 5, pl xs 6] (segsB xs (pl xs 1).toNat (pl xs 3).toNat)) (by kernel_rfl) (fun ch => by kernel_rfl) undef (fun k hk => ?_) ?_ ?_
  · exact ⟨HS4.out.drew, fun e => (by rw [hk 7 (by decide)] at e; cases e)⟩
  · exact ⟨RS.StepC.of (fun ch => RS.StepE.pure 33 (by kernel_rfl) rfl (fun w => by kernel_rfl) (fun f w h => h)),
      RS.StepC.of (fun ch => RS.StepE.pure 34 (by kernel_rfl) rfl (fun w => by kernel_rfl) (fun f w h => h)),
      RS.StepC.of (fun ch => RS.StepE.load 35 (.pointer (some ⟨gq, 1, none⟩)) (by kernel_rfl) (by kernel_rfl) rfl (fun f w h => h) (fun k w p1 p2 h => run_indexAddr rfl (by kernel_rfl) (by kernel_rfl) (index_row gq 7 cq 1 (by decide) w))),
      RS.StepC.of (fun ch => RS.StepE.load 36 (.int .u64 (pl xs 1)) (by kernel_rfl) (by kernel_rfl) rfl (fun f w h => h) (fun k w p1 p2 h => run_load rfl (by kernel_rfl) (load_cell (k := .u64) Tryd.underlying23 (h.1.2.1 1 _ rfl)))),
      RS.StepC.of (fun ch => RS.StepE.pure 37 (by kernel_rfl) rfl (fun w => by kernel_rfl) (fun f w h => h)),
      RS.StepC.of (fun ch => RS.StepE.load 38 (.pointer (some ⟨gq, 3, none⟩)) (by kernel_rfl) (by kernel_rfl) rfl (fun f w h => h) (fun k w p1 p2 h => run_indexAddr rfl (by kernel_rfl) (by kernel_rfl) (index_row gq 7 cq 3 (by decide) w))),
      RS.StepC.of (fun ch => RS.StepE.load 39 (.int .u64 (pl xs 3)) (by kernel_rfl) (by kernel_rfl) rfl (fun f w h => h) (fun k w p1 p2 h => run_load rfl (by kernel_rfl) (load_cell (k := .u64) Tryd.underlying23 (h.1.2.1 3 _ rfl)))),
      RS.StepC.chooseCall 27 (fun ch => #[.slice (some ad) n c, .int .u64 (pl xs 1), .int .u64 (pl xs 3), .int .i64 56, .func (.func 20) #[] #[]]) (fun ch => by kernel_rfl) (fun ch w => by kernel_rfl) (fun k ch w h0 p1 p2 h => by
        have h0 : k 7 = false := h0
        have e8 : k 8 = false := p2 8 (by kernel_rfl) (by decide)
        have e9 : k 9 = false := p2 9 (by kernel_rfl) (by decide)
        have e11 : k 11 = false := p2 11 (by kernel_rfl) (by decide)
        refine (any_segment ad n c (pl xs 1) (pl xs 3) xs w h.1.2.2.1 h.1.2.2.2.1 HB.out HN.out hc hn2 (pl_rg HB.out _ (by decide)).1 (pl_rg HB.out _ (by decide)).1 (pl2 HB.out _ (by decide))).mono ?_
        rintro e w' ⟨v, rfl, hr', hb⟩
        refine ⟨_, v, rfl, fun d hd => by cases hd; kernel_rfl, RS.many_but (md := .any) [(7, 40), (8, 32), (9, 41), (11, 5)] (by kernel_rfl) rfl rfl (by kernel_rfl) (by simp [h0, e8, e9, e11]), h.1.met hb, fun _ => Kd.R_lower hr' h.1.2.2.2.2.size⟩),
      RS.StepC.of (fun ch => RS.StepE.pure 32 (by kernel_rfl) rfl (fun w => by kernel_rfl) (fun f w h => h)),
      RS.StepC.of (fun ch => RS.StepE.pure 41 (by kernel_rfl) rfl (fun w => by kernel_rfl) (fun f w h => h)),
      RS.StepC.of (fun ch => RS.StepE.pure 42 (by kernel_rfl) rfl (fun w => by kernel_rfl) (fun f w h => h)),
      RS.StepC.of (fun ch => RS.StepE.pure 5 (by kernel_rfl) rfl (fun w => by kernel_rfl) (fun f w h => h)),
      RS.StepC.of (fun ch => RS.StepE.pure 3 (by kernel_rfl) rfl (fun w => by kernel_rfl) (fun f w h => h)), trivial⟩
  rintro k v1 w5 hk hs
  clear HS4
  have HS4 := Aside0.mk hs.1
  have HV1 := Aside0.mk (hs.2 (hk _))
  clear hs hk
  (try simp only [List.cons_append, List.nil_append, RS.sets, List.setIfInBounds_toArray, List.set_cons_zero, List.set_cons_succ])
  go_upto_region 11 with (fail)
  refine RS.wp_choice (C := Value) (by kernel_rfl) (fun ch => [(51, .tuple #[ch, .int .i64 (eachE n (pl xs 2).toNat (pl xs 4).toNat 64)]), (43, .tuple #[ch, .int .i64 (eachE n (pl xs 2).toNat (pl xs 4).toNat 64)]), (52, ch), (6, ch)] ++ [(44, .slice (some ad) n c), (45, .slice (some ⟨gq, 0, none⟩) 7 cq), (46, .pointer (some ⟨gq, 2, none⟩)), (47, .int .u64 (pl xs 2)), (48, .slice (some ⟨gq, 0, none⟩) 7 cq), (49, .pointer (some ⟨gq, 4, none⟩)), (50, .int .u64 (pl xs 4)), (53, .int .i64 (eachE n (pl xs 2).toNat (pl xs 4).toNat 64)), (7, .int .i64 (eachE n (pl xs 2).toNat (pl xs 4).toNat 64))]) (RdB w g2 gq ad xs [pl xs 0, pl xs 1, pl xs 2, pl xs 3, pl xs 4, pl xs 5, pl xs 6] v1 (segsB xs (pl xs 1).toNat (pl xs 3).toNat) (secsB xs (pl xs 2).toNat (pl xs 4).toNat)) (by kernel_rfl) (fun ch => by kernel_rfl) undef (fun k hk => ?_) ?_ ?_
  · exact ⟨HS4.out.drew, Kd.R_drew HV1.out, fun e => (by rw [hk 7 (by decide)] at e; cases e)⟩
  · exact ⟨RS.StepC.of (fun ch => RS.StepE.pure 44 (by kernel_rfl) rfl (fun w => by kernel_rfl) (fun f w h => h)),
      RS.StepC.of (fun ch => RS.StepE.pure 45 (by kernel_rfl) rfl (fun w => by kernel_rfl) (fun f w h => h)),
      RS.StepC.of (fun ch => RS.StepE.load 46 (.pointer (some ⟨gq, 2, none⟩)) (by kernel_rfl) (by kernel_rfl) rfl (fun f w h => h) (fun k w p1 p2 h => run_indexAddr rfl (by kernel_rfl) (by kernel_rfl) (index_row gq 7 cq 2 (by decide) w))),
      RS.StepC.of (fun ch => RS.StepE.load 47 (.int .u64 (pl xs 2)) (by kernel_rfl) (by kernel_rfl) rfl (fun f w h => h) (fun k w p1 p2 h => run_load rfl (by kernel_rfl) (load_cell (k := .u64) Tryd.underlying23 (h.1.2.1 2 _ rfl)))),
      RS.StepC.of (fun ch => RS.StepE.pure 48 (by kernel_rfl) rfl (fun w => by kernel_rfl) (fun f w h => h)),
      RS.StepC.of (fun ch => RS.StepE.load 49 (.pointer (some ⟨gq, 4, none⟩)) (by kernel_rfl) (by kernel_rfl) rfl (fun f w h => h) (fun k w p1 p2 h => run_indexAddr rfl (by kernel_rfl) (by kernel_rfl) (index_row gq 7 cq 4 (by decide) w))),
      RS.StepC.of (fun ch => RS.StepE.load 50 (.int .u64 (pl xs 4)) (by kernel_rfl) (by kernel_rfl) rfl (fun f w h => h) (fun k w p1 p2 h => run_load rfl (by kernel_rfl) (load_cell (k := .u64) Tryd.underlying23 (h.1.2.1 4 _ rfl)))),
      RS.StepC.chooseCall 28 (fun ch => #[.slice (some ad) n c, .int .u64 (pl xs 2), .int .u64 (pl xs 4), .int .i64 64, .func (.func 22) #[] #[]]) (fun ch => by kernel_rfl) (fun ch w => by kernel_rfl) (fun k ch w h0 p1 p2 h => by
        have h0 : k 7 = false := h0
        have e8 : k 8 = false := p2 8 (by kernel_rfl) (by decide)
        have e9 : k 9 = false := p2 9 (by kernel_rfl) (by decide)
        have e11 : k 11 = false := p2 11 (by kernel_rfl) (by decide)
        refine (any_section ad n c (pl xs 2) (pl xs 4) xs w h.1.2.2.1 h.1.2.2.2.1 HB.out HN.out hc hn2 (pl_rg HB.out _ (by decide)).1 (pl_rg HB.out _ (by decide)).1 (pl2 HB.out _ (by decide))).mono ?_
        rintro e w' ⟨v, rfl, hr', hb⟩
        refine ⟨_, v, rfl, fun d hd => by cases hd; kernel_rfl, RS.many_but (md := .any) [(7, 51), (8, 43), (9, 52), (11, 6)] (by kernel_rfl) rfl rfl (by kernel_rfl) (by simp [h0, e8, e9, e11]), h.1.met hb, Kd.R_below h.2.1 hb, fun _ => Kd.R_lower hr' h.1.2.2.2.2.size⟩),
      RS.StepC.of (fun ch => RS.StepE.pure 43 (by kernel_rfl) rfl (fun w => by kernel_rfl) (fun f w h => h)),
      RS.StepC.of (fun ch => RS.StepE.pure 52 (by kernel_rfl) rfl (fun w => by kernel_rfl) (fun f w h => h)),
      RS.StepC.of (fun ch => RS.StepE.pure 53 (by kernel_rfl) rfl (fun w => by kernel_rfl) (fun f w h => h)),
      RS.StepC.of (fun ch => RS.StepE.pure 6 (by kernel_rfl) rfl (fun w => by kernel_rfl) (fun f w h => h)),
      RS.StepC.of (fun ch => RS.StepE.pure 7 (by kernel_rfl) rfl (fun w => by kernel_rfl) (fun f w h => h)), trivial⟩
  rintro k v2 w5 hk hs
  clear HS4
  clear HV1
  have HS4 := Aside0.mk hs.1
  have HV1 := Aside0.mk hs.2.1
  have HV2 := Aside0.mk (hs.2.2 (hk _))
  clear hs hk
  (try simp only [List.cons_append, List.nil_append, RS.sets, List.setIfInBounds_toArray, List.set_cons_zero, List.set_cons_succ])
  simp only [HE1.out, HE2.out]
  go_upto_region 12 with (fail)
  refine RS.wp_text [(54, .int .i64 33), (55, .int .i64 0), (56, .int .i64 33), (57, .bool true)] (fun w' => w' = w5) (by kernel_rfl) (by kernel_rfl) rfl ?_ ?_
  · exact ⟨RS.StepOK.pure 54 (by kernel_rfl) rfl (fun w => by kernel_rfl),
      RS.StepOK.pure 55 (by kernel_rfl) rfl (fun w => by kernel_rfl),
      RS.StepOK.pure 56 (by kernel_rfl) rfl (fun w => by kernel_rfl),
      RS.StepOK.pure 57 (by kernel_rfl) rfl (fun w => by kernel_rfl), trivial⟩
  rintro w6 rfl
  (try simp only [RS.sets, List.setIfInBounds_toArray, List.set_cons_zero, List.set_cons_succ])
  have G := Aside0.mk HS4.out.1
  go_wp2_with (first | (with_reducible refine wpList_load_row rfl 27 (.tmp 2) rfl g2 rfl 27 #[.int .u64 0, .int .u64 0, .int .u64 0, .slice none 0 0, .slice none 0 0] (0, 0) _ G.out hu rfl HIN.out ?_) | (with_reducible refine wpList_store_row rfl 27 (.tmp 2) (.tmp 58) rfl g2 #[.int .u64 0, .int .u64 0, .int .u64 0, .slice none 0 0, .slice none 0 0] rfl rfl 27 #[.int .u64 0, .int .u64 0, .int .u64 0, .slice none 0 0, .slice none 0 0] G.out HIN.out rfl HONE.out ?_))
  exact bodyPost_ret (results_ctB rfl _ _ g2 27 #[.int .u64 0, .int .u64 0, .int .u64 0, .slice none 0 0, .slice none 0 0] (0, 0) _ rfl _ rfl (setRow_heap w6 g2 _ _ 27 (0, 0) G.out) hu rfl (by kernel_rfl)) rfl ⟨rfl, below_setRow HS4.out.2.2.2.2 (by have := HG2.out; omega) _⟩
set_option maxHeartbeats 8000000 in
set_option maxRecDepth 100000 in
theorem read_p3 (ad : Addr) (n c : Nat) (xs : List Int) (w : World) (hT : Tab w) (hx : Row8 w ad xs) (hb : BB xs) (hn : xs.length = n) (hc : n ≤ c) (hm : 64 ≤ n) (hn2 : n ≤ 131072) (h4 : xs.take 4 = elfS) (hr : rightP xs = true) (he1 : eachE n (pl xs 1).toNat (pl xs 3).toNat 56 = 0) (he2 : eachE n (pl xs 2).toNat (pl xs 4).toNat 64 = 33) : Calls Tryd.prog 10 #[.slice (some ad) n c] w fun e w' => e = .returned (.tuple #[.agg #[.int .u64 0, .int .u64 0, .int .u64 0, .slice none 0 0, .slice none 0 0], .int .i64 33]) ∧ Below w.heap.size w w' := by
  have HE1 := Aside0.mk he1
  have HE2 := Aside0.mk he2
  clear he1 he2
  have hu := Tryd.underlying27
  have HIN := Aside0.mk (show (Tryd.prog.info? 27).map (·.size) = some (#[.int .u64 0, .int .u64 0, .int .u64 0, .slice none 0 0, .slice none 0 0] : Array Value).size by kernel_rfl)
  have HONE := Aside0.mk (show (#[.int .u64 0, .int .u64 0, .int .u64 0, .slice none 0 0, .slice none 0 0] : Array Value).all (·.oneCell') = true by simp [Value.oneCell'])
  have HT := Aside0.mk hT
  have HX := Aside0.mk hx
  have HB := Aside0.mk hb
  have HN := Aside0.mk hn
  have H4 := Aside0.mk h4
  have HM := Aside0.mk (And.intro hm hn2)
  have HC := Aside0.mk hc
  have hlt : decide ((131072 : Int) < (n : Int)) = false := decide_eq_false (by omega)
  have hl2 : decide ((n : Int) < 64) = false := decide_eq_false (by omega)
  clear hT hx hb hn h4
  go_enter Tryd.func10, Tryd.ntmps10
  go_upto_region 5 with (fail)
  clear hlt hl2
  have hb1 : Below w.heap.size w (w.alloc (.cells #[.int .u64 0, .int .u64 0, .int .u64 0, .slice none 0 0, .slice none 0 0] 27)) := bX_ (Below.refl _ _) _
  have h1 := World.alloc_heap_new w (.cells #[.int .u64 0, .int .u64 0, .int .u64 0, .slice none 0 0, .slice none 0 0] 27)
  generalize w.alloc (.cells #[.int .u64 0, .int .u64 0, .int .u64 0, .slice none 0 0, .slice none 0 0] 27) = w1 at *
  obtain ⟨g2, hg2⟩ : ∃ g2, w.heap.size = g2 := ⟨_, rfl⟩
  have HS := Aside0.mk (show RdS w g2 0 ad xs [] w1 from ⟨by rw [← hg2]; exact h1, fun j x hx => by simp at hx, HT.out.below hb1, fun j hj => pw_cell_below hb1 (HX.out j hj), hb1⟩)
  have HG2 := Aside0.mk hg2
  (try rw [hg2])
  clear h1 hb1 hg2
  refine RS.wp_text [(19, .slice (some ad) n c), (20, .slice (some ad) 4 c), (21, .string (strOfNums (xs.take 4))), (22, .bool false), (18, .bool false)] (RdS w g2 0 ad xs []) (by kernel_rfl) (by kernel_rfl) HS.out ?_ ?_
  · exact ⟨RS.StepOK.pure 19 (by kernel_rfl) rfl (fun w => by kernel_rfl),
      RS.StepOK.load 20 (.slice (some ad) 4 c) (by kernel_rfl) (by kernel_rfl) rfl (fun w hS => run_slice_h4 rfl (by kernel_rfl) (slice_to4 ad n c (by omega) hc w)),
      RS.StepOK.load 21 (.string (strOfNums (xs.take 4))) (by kernel_rfl) (by kernel_rfl) rfl (fun w hS => run_conv rfl (by kernel_rfl) (conv4 (c := c) (hS.2.2.2.1) (by rw [HN.out]; omega))),
      RS.StepOK.load 22 (.bool false) (by kernel_rfl) (by kernel_rfl) rfl (fun w hS => run_bin rfl (by kernel_rfl) (by kernel_rfl) (by kernel_rfl) (neqs_f (str_elf H4.out) w)),
      RS.StepOK.pure 18 (by kernel_rfl) rfl (fun w => by kernel_rfl), trivial⟩
  rintro w2 hs
  clear HS
  have HS := Aside0.mk hs
  clear hs
  (try simp only [RS.sets, List.setIfInBounds_toArray, List.set_cons_zero, List.set_cons_succ])
  go_upto_region 8 with (go_at_call 25; refine (taken_at ad n c xs _ HS.out.2.2.1 HS.out.2.2.2.1 HB.out HN.out hc hm hn2).mono ?_; rintro e w3 ⟨v, rfl, ho, hb3⟩)
  obtain ⟨gq, cq, rfl, hgq, hcq⟩ := own_cells64 ho (by decide) rfl
  have HS3 := Aside0.mk (show RdS w g2 gq ad xs [(pl xs 0), (pl xs 1), (pl xs 2), (pl xs 3), (pl xs 4), (pl xs 5), (pl xs 6)] w3 from ⟨heap_below hb3 HS.out.1, hcq, (HS.out.met hb3).2.2⟩)
  have HGQ := Aside0.mk (show g2 < gq by have := (Array.getElem?_eq_some_iff.1 HS.out.1).1; omega)
  clear HS ho hgq hcq hb3
  go_upto_if 30 with (go_at_call 26; refine (right_at ad n c gq cq xs _ hr _ HS3.out.2.2.1 HS3.out.2.2.2.1 HB.out HN.out hc hm HS3.out.2.1).mono ?_; rintro e w4 ⟨rfl, hb4⟩)
  have HS4 := Aside0.mk (HS3.out.met hb4)
  clear HS3 hb4
  go_upto_region 10 with (fail)
  refine RS.wp_choice (C := Value) (by kernel_rfl) (fun ch => [(40, .tuple #[ch, .int .i64 (eachE n (pl xs 1).toNat (pl xs 3).toNat 56)]), (32, .tuple #[ch, .int .i64 (eachE n (pl xs 1).toNat (pl xs 3).toNat 56)]), (41, ch), (5, ch)] ++ [(33, .slice (some ad) n c), (34, .slice (some ⟨gq, 0, none⟩) 7 cq), (35, .pointer (some ⟨gq, 1, none⟩)), (36, .int .u64 (pl xs 1)), (37, .slice (some ⟨gq, 0, none⟩) 7 cq), (38, .pointer (some ⟨gq, 3, none⟩)), (39, .int .u64 (pl xs 3)), (42, .int .i64 (eachE n (pl xs 1).toNat (pl xs 3).toNat 56)), (3, .int .i64 (eachE n (pl xs 1).toNat (pl xs 3).toNat 56))]) (RdA w g2 gq ad xs [pl xs 0, pl xs 1, pl xs 2, pl xs 3, pl xs 4, pl xs 5, pl xs 6] (segsB xs (pl xs 1).toNat (pl xs 3).toNat)) (by kernel_rfl) (fun ch => by kernel_rfl) undef (fun k hk => ?_) ?_ ?_
  · exact ⟨HS4.out.drew, fun e => (by rw [hk 7 (by decide)] at e; cases e)⟩
  · exact ⟨RS.StepC.of (fun ch => RS.StepE.pure 33 (by kernel_rfl) rfl (fun w => by kernel_rfl) (fun f w h => h)),
      RS.StepC.of (fun ch => RS.StepE.pure 34 (by kernel_rfl) rfl (fun w => by kernel_rfl) (fun f w h => h)),
      RS.StepC.of (fun ch => RS.StepE.load 35 (.pointer (some ⟨gq, 1, none⟩)) (by kernel_rfl) (by kernel_rfl) rfl (fun f w h => h) (fun k w p1 p2 h => run_indexAddr rfl (by kernel_rfl) (by kernel_rfl) (index_row gq 7 cq 1 (by decide) w))),
      RS.StepC.of (fun ch => RS.StepE.load 36 (.int .u64 (pl xs 1)) (by kernel_rfl) (by kernel_rfl) rfl (fun f w h => h) (fun k w p1 p2 h => run_load rfl (by kernel_rfl) (load_cell (k := .u64) Tryd.underlying23 (h.1.2.1 1 _ rfl)))),
      RS.StepC.of (fun ch => RS.StepE.pure 37 (by kernel_rfl) rfl (fun w => by kernel_rfl) (fun f w h => h)),
      RS.StepC.of (fun ch => RS.StepE.load 38 (.pointer (some ⟨gq, 3, none⟩)) (by kernel_rfl) (by kernel_rfl) rfl (fun f w h => h) (fun k w p1 p2 h => run_indexAddr rfl (by kernel_rfl) (by kernel_rfl) (index_row gq 7 cq 3 (by decide) w))),
      RS.StepC.of (fun ch => RS.StepE.load 39 (.int .u64 (pl xs 3)) (by kernel_rfl) (by kernel_rfl) rfl (fun f w h => h) (fun k w p1 p2 h => run_load rfl (by kernel_rfl) (load_cell (k := .u64) Tryd.underlying23 (h.1.2.1 3 _ rfl)))),
      RS.StepC.chooseCall 27 (fun ch => #[.slice (some ad) n c, .int .u64 (pl xs 1), .int .u64 (pl xs 3), .int .i64 56, .func (.func 20) #[] #[]]) (fun ch => by kernel_rfl) (fun ch w => by kernel_rfl) (fun k ch w h0 p1 p2 h => by
        have h0 : k 7 = false := h0
        have e8 : k 8 = false := p2 8 (by kernel_rfl) (by decide)
        have e9 : k 9 = false := p2 9 (by kernel_rfl) (by decide)
        have e11 : k 11 = false := p2 11 (by kernel_rfl) (by decide)
        refine (any_segment ad n c (pl xs 1) (pl xs 3) xs w h.1.2.2.1 h.1.2.2.2.1 HB.out HN.out hc hn2 (pl_rg HB.out _ (by decide)).1 (pl_rg HB.out _ (by decide)).1 (pl2 HB.out _ (by decide))).mono ?_
        rintro e w' ⟨v, rfl, hr', hb⟩
        refine ⟨_, v, rfl, fun d hd => by cases hd; kernel_rfl, RS.many_but (md := .any) [(7, 40), (8, 32), (9, 41), (11, 5)] (by kernel_rfl) rfl rfl (by kernel_rfl) (by simp [h0, e8, e9, e11]), h.1.met hb, fun _ => Kd.R_lower hr' h.1.2.2.2.2.size⟩),
      RS.StepC.of (fun ch => RS.StepE.pure 32 (by kernel_rfl) rfl (fun w => by kernel_rfl) (fun f w h => h)),
      RS.StepC.of (fun ch => RS.StepE.pure 41 (by kernel_rfl) rfl (fun w => by kernel_rfl) (fun f w h => h)),
      RS.StepC.of (fun ch => RS.StepE.pure 42 (by kernel_rfl) rfl (fun w => by kernel_rfl) (fun f w h => h)),
      RS.StepC.of (fun ch => RS.StepE.pure 5 (by kernel_rfl) rfl (fun w => by kernel_rfl) (fun f w h => h)),
      RS.StepC.of (fun ch => RS.StepE.pure 3 (by kernel_rfl) rfl (fun w => by kernel_rfl) (fun f w h => h)), trivial⟩
  rintro k v1 w5 hk hs
  clear HS4
  have HS4 := Aside0.mk hs.1
  have HV1 := Aside0.mk (hs.2 (hk _))
  clear hs hk
  (try simp only [List.cons_append, List.nil_append, RS.sets, List.setIfInBounds_toArray, List.set_cons_zero, List.set_cons_succ])
  go_upto_region 11 with (fail)
  refine RS.wp_choice (C := Value) (by kernel_rfl) (fun ch => [(51, .tuple #[ch, .int .i64 (eachE n (pl xs 2).toNat (pl xs 4).toNat 64)]), (43, .tuple #[ch, .int .i64 (eachE n (pl xs 2).toNat (pl xs 4).toNat 64)]), (52, ch), (6, ch)] ++ [(44, .slice (some ad) n c), (45, .slice (some ⟨gq, 0, none⟩) 7 cq), (46, .pointer (some ⟨gq, 2, none⟩)), (47, .int .u64 (pl xs 2)), (48, .slice (some ⟨gq, 0, none⟩) 7 cq), (49, .pointer (some ⟨gq, 4, none⟩)), (50, .int .u64 (pl xs 4)), (53, .int .i64 (eachE n (pl xs 2).toNat (pl xs 4).toNat 64)), (7, .int .i64 (eachE n (pl xs 2).toNat (pl xs 4).toNat 64))]) (RdB w g2 gq ad xs [pl xs 0, pl xs 1, pl xs 2, pl xs 3, pl xs 4, pl xs 5, pl xs 6] v1 (segsB xs (pl xs 1).toNat (pl xs 3).toNat) (secsB xs (pl xs 2).toNat (pl xs 4).toNat)) (by kernel_rfl) (fun ch => by kernel_rfl) undef (fun k hk => ?_) ?_ ?_
  · exact ⟨HS4.out.drew, Kd.R_drew HV1.out, fun e => (by rw [hk 7 (by decide)] at e; cases e)⟩
  · exact ⟨RS.StepC.of (fun ch => RS.StepE.pure 44 (by kernel_rfl) rfl (fun w => by kernel_rfl) (fun f w h => h)),
      RS.StepC.of (fun ch => RS.StepE.pure 45 (by kernel_rfl) rfl (fun w => by kernel_rfl) (fun f w h => h)),
      RS.StepC.of (fun ch => RS.StepE.load 46 (.pointer (some ⟨gq, 2, none⟩)) (by kernel_rfl) (by kernel_rfl) rfl (fun f w h => h) (fun k w p1 p2 h => run_indexAddr rfl (by kernel_rfl) (by kernel_rfl) (index_row gq 7 cq 2 (by decide) w))),
      RS.StepC.of (fun ch => RS.StepE.load 47 (.int .u64 (pl xs 2)) (by kernel_rfl) (by kernel_rfl) rfl (fun f w h => h) (fun k w p1 p2 h => run_load rfl (by kernel_rfl) (load_cell (k := .u64) Tryd.underlying23 (h.1.2.1 2 _ rfl)))),
      RS.StepC.of (fun ch => RS.StepE.pure 48 (by kernel_rfl) rfl (fun w => by kernel_rfl) (fun f w h => h)),
      RS.StepC.of (fun ch => RS.StepE.load 49 (.pointer (some ⟨gq, 4, none⟩)) (by kernel_rfl) (by kernel_rfl) rfl (fun f w h => h) (fun k w p1 p2 h => run_indexAddr rfl (by kernel_rfl) (by kernel_rfl) (index_row gq 7 cq 4 (by decide) w))),
      RS.StepC.of (fun ch => RS.StepE.load 50 (.int .u64 (pl xs 4)) (by kernel_rfl) (by kernel_rfl) rfl (fun f w h => h) (fun k w p1 p2 h => run_load rfl (by kernel_rfl) (load_cell (k := .u64) Tryd.underlying23 (h.1.2.1 4 _ rfl)))),
      RS.StepC.chooseCall 28 (fun ch => #[.slice (some ad) n c, .int .u64 (pl xs 2), .int .u64 (pl xs 4), .int .i64 64, .func (.func 22) #[] #[]]) (fun ch => by kernel_rfl) (fun ch w => by kernel_rfl) (fun k ch w h0 p1 p2 h => by
        have h0 : k 7 = false := h0
        have e8 : k 8 = false := p2 8 (by kernel_rfl) (by decide)
        have e9 : k 9 = false := p2 9 (by kernel_rfl) (by decide)
        have e11 : k 11 = false := p2 11 (by kernel_rfl) (by decide)
        refine (any_section ad n c (pl xs 2) (pl xs 4) xs w h.1.2.2.1 h.1.2.2.2.1 HB.out HN.out hc hn2 (pl_rg HB.out _ (by decide)).1 (pl_rg HB.out _ (by decide)).1 (pl2 HB.out _ (by decide))).mono ?_
        rintro e w' ⟨v, rfl, hr', hb⟩
        refine ⟨_, v, rfl, fun d hd => by cases hd; kernel_rfl, RS.many_but (md := .any) [(7, 51), (8, 43), (9, 52), (11, 6)] (by kernel_rfl) rfl rfl (by kernel_rfl) (by simp [h0, e8, e9, e11]), h.1.met hb, Kd.R_below h.2.1 hb, fun _ => Kd.R_lower hr' h.1.2.2.2.2.size⟩),
      RS.StepC.of (fun ch => RS.StepE.pure 43 (by kernel_rfl) rfl (fun w => by kernel_rfl) (fun f w h => h)),
      RS.StepC.of (fun ch => RS.StepE.pure 52 (by kernel_rfl) rfl (fun w => by kernel_rfl) (fun f w h => h)),
      RS.StepC.of (fun ch => RS.StepE.pure 53 (by kernel_rfl) rfl (fun w => by kernel_rfl) (fun f w h => h)),
      RS.StepC.of (fun ch => RS.StepE.pure 6 (by kernel_rfl) rfl (fun w => by kernel_rfl) (fun f w h => h)),
      RS.StepC.of (fun ch => RS.StepE.pure 7 (by kernel_rfl) rfl (fun w => by kernel_rfl) (fun f w h => h)), trivial⟩
  rintro k v2 w5 hk hs
  clear HS4
  clear HV1
  have HS4 := Aside0.mk hs.1
  have HV1 := Aside0.mk hs.2.1
  have HV2 := Aside0.mk (hs.2.2 (hk _))
  clear hs hk
  (try simp only [List.cons_append, List.nil_append, RS.sets, List.setIfInBounds_toArray, List.set_cons_zero, List.set_cons_succ])
  simp only [HE1.out, HE2.out]
  go_upto_region 12 with (fail)
  refine RS.wp_text [(54, .int .i64 0), (55, .int .i64 33), (56, .int .i64 33), (57, .bool true)] (fun w' => w' = w5) (by kernel_rfl) (by kernel_rfl) rfl ?_ ?_
  · exact ⟨RS.StepOK.pure 54 (by kernel_rfl) rfl (fun w => by kernel_rfl),
      RS.StepOK.pure 55 (by kernel_rfl) rfl (fun w => by kernel_rfl),
      RS.StepOK.pure 56 (by kernel_rfl) rfl (fun w => by kernel_rfl),
      RS.StepOK.pure 57 (by kernel_rfl) rfl (fun w => by kernel_rfl), trivial⟩
  rintro w6 rfl
  (try simp only [RS.sets, List.setIfInBounds_toArray, List.set_cons_zero, List.set_cons_succ])
  have G := Aside0.mk HS4.out.1
  go_wp2_with (first | (with_reducible refine wpList_load_row rfl 27 (.tmp 2) rfl g2 rfl 27 #[.int .u64 0, .int .u64 0, .int .u64 0, .slice none 0 0, .slice none 0 0] (0, 0) _ G.out hu rfl HIN.out ?_) | (with_reducible refine wpList_store_row rfl 27 (.tmp 2) (.tmp 58) rfl g2 #[.int .u64 0, .int .u64 0, .int .u64 0, .slice none 0 0, .slice none 0 0] rfl rfl 27 #[.int .u64 0, .int .u64 0, .int .u64 0, .slice none 0 0, .slice none 0 0] G.out HIN.out rfl HONE.out ?_))
  exact bodyPost_ret (results_ctB rfl _ _ g2 27 #[.int .u64 0, .int .u64 0, .int .u64 0, .slice none 0 0, .slice none 0 0] (0, 0) _ rfl _ rfl (setRow_heap w6 g2 _ _ 27 (0, 0) G.out) hu rfl (by kernel_rfl)) rfl ⟨rfl, below_setRow HS4.out.2.2.2.2 (by have := HG2.out; omega) _⟩
set_option maxHeartbeats 8000000 in
set_option maxRecDepth 100000 in
theorem read_ok (ad : Addr) (n c : Nat) (xs : List Int) (w : World) (hT : Tab w) (hx : Row8 w ad xs) (hb : BB xs) (hn : xs.length = n) (hc : n ≤ c) (hm : 64 ≤ n) (hn2 : n ≤ 131072) (h4 : xs.take 4 = elfS) (hr : rightP xs = true) (he1 : eachE n (pl xs 1).toNat (pl xs 3).toNat 56 = 0) (he2 : eachE n (pl xs 2).toNat (pl xs 4).toNat 64 = 0) : Calls Tryd.prog 10 #[.slice (some ad) n c] w fun e w' => ∃ v1 v2 : Value, e = .returned (.tuple #[.agg #[.int .u64 (pl xs 0), .int .u64 (pl xs 1), .int .u64 (pl xs 2), v1, v2], .int .i64 0]) ∧ Kd.R k30 30 w' w.heap.size (fun _ => True) v1 (segsB xs (pl xs 1).toNat (pl xs 3).toNat) ∧ Kd.R k32 32 w' w.heap.size (fun _ => True) v2 (secsB xs (pl xs 2).toNat (pl xs 4).toNat) ∧ Below w.heap.size w w' := by
  have HE1 := Aside0.mk he1
  have HE2 := Aside0.mk he2
  clear he1 he2
  have hu := Tryd.underlying27
  have HIN := Aside0.mk (show (Tryd.prog.info? 27).map (·.size) = some (#[.int .u64 0, .int .u64 0, .int .u64 0, .slice none 0 0, .slice none 0 0] : Array Value).size by kernel_rfl)
  have HONE := Aside0.mk (show (#[.int .u64 0, .int .u64 0, .int .u64 0, .slice none 0 0, .slice none 0 0] : Array Value).all (·.oneCell') = true by simp [Value.oneCell'])
  have HT := Aside0.mk hT
  have HX := Aside0.mk hx
  have HB := Aside0.mk hb
  have HN := Aside0.mk hn
  have H4 := Aside0.mk h4
  have HM := Aside0.mk (And.intro hm hn2)
  have HC := Aside0.mk hc
  have hlt : decide ((131072 : Int) < (n : Int)) = false := decide_eq_false (by omega)
  have hl2 : decide ((n : Int) < 64) = false := decide_eq_false (by omega)
  clear hT hx hb hn h4
  go_enter Tryd.func10, Tryd.ntmps10
  go_upto_region 5 with (fail)
  clear hlt hl2
  have hb1 : Below w.heap.size w (w.alloc (.cells #[.int .u64 0, .int .u64 0, .int .u64 0, .slice none 0 0, .slice none 0 0] 27)) := bX_ (Below.refl _ _) _
  have h1 := World.alloc_heap_new w (.cells #[.int .u64 0, .int .u64 0, .int .u64 0, .slice none 0 0, .slice none 0 0] 27)
  generalize w.alloc (.cells #[.int .u64 0, .int .u64 0, .int .u64 0, .slice none 0 0, .slice none 0 0] 27) = w1 at *
  obtain ⟨g2, hg2⟩ : ∃ g2, w.heap.size = g2 := ⟨_, rfl⟩
  have HS := Aside0.mk (show RdS w g2 0 ad xs [] w1 from ⟨by rw [← hg2]; exact h1, fun j x hx => by simp at hx, HT.out.below hb1, fun j hj => pw_cell_below hb1 (HX.out j hj), hb1⟩)
  have HG2 := Aside0.mk hg2
  (try rw [hg2])
  clear h1 hb1 hg2
  refine RS.wp_text [(19, .slice (some ad) n c), (20, .slice (some ad) 4 c), (21, .string (strOfNums (xs.take 4))), (22, .bool false), (18, .bool false)] (RdS w g2 0 ad xs []) (by kernel_rfl) (by kernel_rfl) HS.out ?_ ?_
  · exact ⟨RS.StepOK.pure 19 (by kernel_rfl) rfl (fun w => by kernel_rfl),
      RS.StepOK.load 20 (.slice (some ad) 4 c) (by kernel_rfl) (by kernel_rfl) rfl (fun w hS => run_slice_h4 rfl (by kernel_rfl) (slice_to4 ad n c (by omega) hc w)),
      RS.StepOK.load 21 (.string (strOfNums (xs.take 4))) (by kernel_rfl) (by kernel_rfl) rfl (fun w hS => run_conv rfl (by kernel_rfl) (conv4 (c := c) (hS.2.2.2.1) (by rw [HN.out]; omega))),
      RS.StepOK.load 22 (.bool false) (by kernel_rfl) (by kernel_rfl) rfl (fun w hS => run_bin rfl (by kernel_rfl) (by kernel_rfl) (by kernel_rfl) (neqs_f (str_elf H4.out) w)),
      RS.StepOK.pure 18 (by kernel_rfl) rfl (fun w => by kernel_rfl), trivial⟩
  rintro w2 hs
  clear HS
  have HS := Aside0.mk hs
  clear hs
  (try simp only [RS.sets, List.setIfInBounds_toArray, List.set_cons_zero, List.set_cons_succ])
  go_upto_region 8 with (go_at_call 25; refine (taken_at ad n c xs _ HS.out.2.2.1 HS.out.2.2.2.1 HB.out HN.out hc hm hn2).mono ?_; rintro e w3 ⟨v, rfl, ho, hb3⟩)
  obtain ⟨gq, cq, rfl, hgq, hcq⟩ := own_cells64 ho (by decide) rfl
  have HS3 := Aside0.mk (show RdS w g2 gq ad xs [(pl xs 0), (pl xs 1), (pl xs 2), (pl xs 3), (pl xs 4), (pl xs 5), (pl xs 6)] w3 from ⟨heap_below hb3 HS.out.1, hcq, (HS.out.met hb3).2.2⟩)
  have HGQ := Aside0.mk (show g2 < gq by have := (Array.getElem?_eq_some_iff.1 HS.out.1).1; omega)
  clear HS ho hgq hcq hb3
  go_upto_if 30 with (go_at_call 26; refine (right_at ad n c gq cq xs _ hr _ HS3.out.2.2.1 HS3.out.2.2.2.1 HB.out HN.out hc hm HS3.out.2.1).mono ?_; rintro e w4 ⟨rfl, hb4⟩)
  have HS4 := Aside0.mk (HS3.out.met hb4)
  clear HS3 hb4
  go_upto_region 10 with (fail)
  refine RS.wp_choice (C := Value) (by kernel_rfl) (fun ch => [(40, .tuple #[ch, .int .i64 (eachE n (pl xs 1).toNat (pl xs 3).toNat 56)]), (32, .tuple #[ch, .int .i64 (eachE n (pl xs 1).toNat (pl xs 3).toNat 56)]), (41, ch), (5, ch)] ++ [(33, .slice (some ad) n c), (34, .slice (some ⟨gq, 0, none⟩) 7 cq), (35, .pointer (some ⟨gq, 1, none⟩)), (36, .int .u64 (pl xs 1)), (37, .slice (some ⟨gq, 0, none⟩) 7 cq), (38, .pointer (some ⟨gq, 3, none⟩)), (39, .int .u64 (pl xs 3)), (42, .int .i64 (eachE n (pl xs 1).toNat (pl xs 3).toNat 56)), (3, .int .i64 (eachE n (pl xs 1).toNat (pl xs 3).toNat 56))]) (RdA w g2 gq ad xs [pl xs 0, pl xs 1, pl xs 2, pl xs 3, pl xs 4, pl xs 5, pl xs 6] (segsB xs (pl xs 1).toNat (pl xs 3).toNat)) (by kernel_rfl) (fun ch => by kernel_rfl) undef (fun k hk => ?_) ?_ ?_
  · exact ⟨HS4.out.drew, fun e => (by rw [hk 7 (by decide)] at e; cases e)⟩
  · exact ⟨RS.StepC.of (fun ch => RS.StepE.pure 33 (by kernel_rfl) rfl (fun w => by kernel_rfl) (fun f w h => h)),
      RS.StepC.of (fun ch => RS.StepE.pure 34 (by kernel_rfl) rfl (fun w => by kernel_rfl) (fun f w h => h)),
      RS.StepC.of (fun ch => RS.StepE.load 35 (.pointer (some ⟨gq, 1, none⟩)) (by kernel_rfl) (by kernel_rfl) rfl (fun f w h => h) (fun k w p1 p2 h => run_indexAddr rfl (by kernel_rfl) (by kernel_rfl) (index_row gq 7 cq 1 (by decide) w))),
      RS.StepC.of (fun ch => RS.StepE.load 36 (.int .u64 (pl xs 1)) (by kernel_rfl) (by kernel_rfl) rfl (fun f w h => h) (fun k w p1 p2 h => run_load rfl (by kernel_rfl) (load_cell (k := .u64) Tryd.underlying23 (h.1.2.1 1 _ rfl)))),
      RS.StepC.of (fun ch => RS.StepE.pure 37 (by kernel_rfl) rfl (fun w => by kernel_rfl) (fun f w h => h)),
      RS.StepC.of (fun ch => RS.StepE.load 38 (.pointer (some ⟨gq, 3, none⟩)) (by kernel_rfl) (by kernel_rfl) rfl (fun f w h => h) (fun k w p1 p2 h => run_indexAddr rfl (by kernel_rfl) (by kernel_rfl) (index_row gq 7 cq 3 (by decide) w))),
      RS.StepC.of (fun ch => RS.StepE.load 39 (.int .u64 (pl xs 3)) (by kernel_rfl) (by kernel_rfl) rfl (fun f w h => h) (fun k w p1 p2 h => run_load rfl (by kernel_rfl) (load_cell (k := .u64) Tryd.underlying23 (h.1.2.1 3 _ rfl)))),
      RS.StepC.chooseCall 27 (fun ch => #[.slice (some ad) n c, .int .u64 (pl xs 1), .int .u64 (pl xs 3), .int .i64 56, .func (.func 20) #[] #[]]) (fun ch => by kernel_rfl) (fun ch w => by kernel_rfl) (fun k ch w h0 p1 p2 h => by
        have h0 : k 7 = false := h0
        have e8 : k 8 = false := p2 8 (by kernel_rfl) (by decide)
        have e9 : k 9 = false := p2 9 (by kernel_rfl) (by decide)
        have e11 : k 11 = false := p2 11 (by kernel_rfl) (by decide)
        refine (any_segment ad n c (pl xs 1) (pl xs 3) xs w h.1.2.2.1 h.1.2.2.2.1 HB.out HN.out hc hn2 (pl_rg HB.out _ (by decide)).1 (pl_rg HB.out _ (by decide)).1 (pl2 HB.out _ (by decide))).mono ?_
        rintro e w' ⟨v, rfl, hr', hb⟩
        refine ⟨_, v, rfl, fun d hd => by cases hd; kernel_rfl, RS.many_but (md := .any) [(7, 40), (8, 32), (9, 41), (11, 5)] (by kernel_rfl) rfl rfl (by kernel_rfl) (by simp [h0, e8, e9, e11]), h.1.met hb, fun _ => Kd.R_lower hr' h.1.2.2.2.2.size⟩),
      RS.StepC.of (fun ch => RS.StepE.pure 32 (by kernel_rfl) rfl (fun w => by kernel_rfl) (fun f w h => h)),
      RS.StepC.of (fun ch => RS.StepE.pure 41 (by kernel_rfl) rfl (fun w => by kernel_rfl) (fun f w h => h)),
      RS.StepC.of (fun ch => RS.StepE.pure 42 (by kernel_rfl) rfl (fun w => by kernel_rfl) (fun f w h => h)),
      RS.StepC.of (fun ch => RS.StepE.pure 5 (by kernel_rfl) rfl (fun w => by kernel_rfl) (fun f w h => h)),
      RS.StepC.of (fun ch => RS.StepE.pure 3 (by kernel_rfl) rfl (fun w => by kernel_rfl) (fun f w h => h)), trivial⟩
  rintro k v1 w5 hk hs
  clear HS4
  have HS4 := Aside0.mk hs.1
  have HV1 := Aside0.mk (hs.2 (hk _))
  clear hs hk
  (try simp only [List.cons_append, List.nil_append, RS.sets, List.setIfInBounds_toArray, List.set_cons_zero, List.set_cons_succ])
  go_upto_region 11 with (fail)
  refine RS.wp_choice (C := Value) (by kernel_rfl) (fun ch => [(51, .tuple #[ch, .int .i64 (eachE n (pl xs 2).toNat (pl xs 4).toNat 64)]), (43, .tuple #[ch, .int .i64 (eachE n (pl xs 2).toNat (pl xs 4).toNat 64)]), (52, ch), (6, ch)] ++ [(44, .slice (some ad) n c), (45, .slice (some ⟨gq, 0, none⟩) 7 cq), (46, .pointer (some ⟨gq, 2, none⟩)), (47, .int .u64 (pl xs 2)), (48, .slice (some ⟨gq, 0, none⟩) 7 cq), (49, .pointer (some ⟨gq, 4, none⟩)), (50, .int .u64 (pl xs 4)), (53, .int .i64 (eachE n (pl xs 2).toNat (pl xs 4).toNat 64)), (7, .int .i64 (eachE n (pl xs 2).toNat (pl xs 4).toNat 64))]) (RdB w g2 gq ad xs [pl xs 0, pl xs 1, pl xs 2, pl xs 3, pl xs 4, pl xs 5, pl xs 6] v1 (segsB xs (pl xs 1).toNat (pl xs 3).toNat) (secsB xs (pl xs 2).toNat (pl xs 4).toNat)) (by kernel_rfl) (fun ch => by kernel_rfl) undef (fun k hk => ?_) ?_ ?_
  · exact ⟨HS4.out.drew, Kd.R_drew HV1.out, fun e => (by rw [hk 7 (by decide)] at e; cases e)⟩
  · exact ⟨RS.StepC.of (fun ch => RS.StepE.pure 44 (by kernel_rfl) rfl (fun w => by kernel_rfl) (fun f w h => h)),
      RS.StepC.of (fun ch => RS.StepE.pure 45 (by kernel_rfl) rfl (fun w => by kernel_rfl) (fun f w h => h)),
      RS.StepC.of (fun ch => RS.StepE.load 46 (.pointer (some ⟨gq, 2, none⟩)) (by kernel_rfl) (by kernel_rfl) rfl (fun f w h => h) (fun k w p1 p2 h => run_indexAddr rfl (by kernel_rfl) (by kernel_rfl) (index_row gq 7 cq 2 (by decide) w))),
      RS.StepC.of (fun ch => RS.StepE.load 47 (.int .u64 (pl xs 2)) (by kernel_rfl) (by kernel_rfl) rfl (fun f w h => h) (fun k w p1 p2 h => run_load rfl (by kernel_rfl) (load_cell (k := .u64) Tryd.underlying23 (h.1.2.1 2 _ rfl)))),
      RS.StepC.of (fun ch => RS.StepE.pure 48 (by kernel_rfl) rfl (fun w => by kernel_rfl) (fun f w h => h)),
      RS.StepC.of (fun ch => RS.StepE.load 49 (.pointer (some ⟨gq, 4, none⟩)) (by kernel_rfl) (by kernel_rfl) rfl (fun f w h => h) (fun k w p1 p2 h => run_indexAddr rfl (by kernel_rfl) (by kernel_rfl) (index_row gq 7 cq 4 (by decide) w))),
      RS.StepC.of (fun ch => RS.StepE.load 50 (.int .u64 (pl xs 4)) (by kernel_rfl) (by kernel_rfl) rfl (fun f w h => h) (fun k w p1 p2 h => run_load rfl (by kernel_rfl) (load_cell (k := .u64) Tryd.underlying23 (h.1.2.1 4 _ rfl)))),
      RS.StepC.chooseCall 28 (fun ch => #[.slice (some ad) n c, .int .u64 (pl xs 2), .int .u64 (pl xs 4), .int .i64 64, .func (.func 22) #[] #[]]) (fun ch => by kernel_rfl) (fun ch w => by kernel_rfl) (fun k ch w h0 p1 p2 h => by
        have h0 : k 7 = false := h0
        have e8 : k 8 = false := p2 8 (by kernel_rfl) (by decide)
        have e9 : k 9 = false := p2 9 (by kernel_rfl) (by decide)
        have e11 : k 11 = false := p2 11 (by kernel_rfl) (by decide)
        refine (any_section ad n c (pl xs 2) (pl xs 4) xs w h.1.2.2.1 h.1.2.2.2.1 HB.out HN.out hc hn2 (pl_rg HB.out _ (by decide)).1 (pl_rg HB.out _ (by decide)).1 (pl2 HB.out _ (by decide))).mono ?_
        rintro e w' ⟨v, rfl, hr', hb⟩
        refine ⟨_, v, rfl, fun d hd => by cases hd; kernel_rfl, RS.many_but (md := .any) [(7, 51), (8, 43), (9, 52), (11, 6)] (by kernel_rfl) rfl rfl (by kernel_rfl) (by simp [h0, e8, e9, e11]), h.1.met hb, Kd.R_below h.2.1 hb, fun _ => Kd.R_lower hr' h.1.2.2.2.2.size⟩),
      RS.StepC.of (fun ch => RS.StepE.pure 43 (by kernel_rfl) rfl (fun w => by kernel_rfl) (fun f w h => h)),
      RS.StepC.of (fun ch => RS.StepE.pure 52 (by kernel_rfl) rfl (fun w => by kernel_rfl) (fun f w h => h)),
      RS.StepC.of (fun ch => RS.StepE.pure 53 (by kernel_rfl) rfl (fun w => by kernel_rfl) (fun f w h => h)),
      RS.StepC.of (fun ch => RS.StepE.pure 6 (by kernel_rfl) rfl (fun w => by kernel_rfl) (fun f w h => h)),
      RS.StepC.of (fun ch => RS.StepE.pure 7 (by kernel_rfl) rfl (fun w => by kernel_rfl) (fun f w h => h)), trivial⟩
  rintro k v2 w5 hk hs
  clear HS4
  clear HV1
  have HS4 := Aside0.mk hs.1
  have HV1 := Aside0.mk hs.2.1
  have HV2 := Aside0.mk (hs.2.2 (hk _))
  clear hs hk
  (try simp only [List.cons_append, List.nil_append, RS.sets, List.setIfInBounds_toArray, List.set_cons_zero, List.set_cons_succ])
  simp only [HE1.out, HE2.out]
  go_upto_region 12 with (fail)
  refine RS.wp_text [(54, .int .i64 0), (55, .int .i64 0), (56, .int .i64 0), (57, .bool false)] (fun w' => w' = w5) (by kernel_rfl) (by kernel_rfl) rfl ?_ ?_
  · exact ⟨RS.StepOK.pure 54 (by kernel_rfl) rfl (fun w => by kernel_rfl),
      RS.StepOK.pure 55 (by kernel_rfl) rfl (fun w => by kernel_rfl),
      RS.StepOK.pure 56 (by kernel_rfl) rfl (fun w => by kernel_rfl),
      RS.StepOK.pure 57 (by kernel_rfl) rfl (fun w => by kernel_rfl), trivial⟩
  rintro w6 rfl
  (try simp only [RS.sets, List.setIfInBounds_toArray, List.set_cons_zero, List.set_cons_succ])
  go_upto_region 14 with (fail)
  obtain ⟨Av1, cv1, ev1, -, -⟩ := Kd.R_reads HV1.out
  obtain ⟨Av2, cv2, ev2, -, -⟩ := Kd.R_reads HV2.out
  subst ev1
  subst ev2
  have HONC := Aside0.mk (show (#[.int .u64 (pl xs 0), .int .u64 (pl xs 1), .int .u64 (pl xs 2), .slice Av1 (segsB xs (pl xs 1).toNat (pl xs 3).toNat).length cv1, .slice Av2 (secsB xs (pl xs 2).toNat (pl xs 4).toNat).length cv2] : Array Value).all (·.oneCell') = true by simp [Value.oneCell'])
  have t1 := Kd.R_mono (Kd.R_types HV1.out HS4.out.1 (by intro q hq; have : q = 30 := (by simpa [k30, Kd.iso, Kd.pair, Kd.int, Kd.scalar] using hq); omega)) (ok' := fun q => q ≠ g2) (fun q hq => hq.2)
  have t2 := Kd.R_mono (Kd.R_types HV2.out HS4.out.1 (by intro q hq; have : q = 32 := (by simpa [k32, Kd.iso, Kd.pair, Kd.int, Kd.scalar] using hq); omega)) (ok' := fun q => q ≠ g2) (fun q hq => hq.2)
  have HS7 := Aside0.mk (And.intro HS4.out.1 (And.intro HS4.out.2.1 (And.intro t1 (And.intro t2 HS4.out.2.2.2.2))))
  clear t1 t2 HV1 HV2 HS4
  refine RS.wp_events (by kernel_rfl) [(59, .slice (some ⟨gq, 0, none⟩) 7 cq), (60, .pointer (some ⟨gq, 0, none⟩)), (61, .int .u64 (pl xs 0)), (62, .slice (some ⟨gq, 0, none⟩) 7 cq), (63, .pointer (some ⟨gq, 1, none⟩)), (64, .int .u64 (pl xs 1)), (65, .slice (some ⟨gq, 0, none⟩) 7 cq), (66, .pointer (some ⟨gq, 2, none⟩)), (67, .int .u64 (pl xs 2)), (68, .slice Av1 (segsB xs (pl xs 1).toNat (pl xs 3).toNat).length cv1), (69, .slice Av2 (secsB xs (pl xs 2).toNat (pl xs 4).toNat).length cv2), (70, .agg #[.int .u64 (pl xs 0), .int .u64 (pl xs 1), .int .u64 (pl xs 2), .slice Av1 (segsB xs (pl xs 1).toNat (pl xs 3).toNat).length cv1, .slice Av2 (secsB xs (pl xs 2).toNat (pl xs 4).toNat).length cv2]), (3, .int .i64 0)] (RdF w g2 gq #[.int .u64 (pl xs 0), .int .u64 (pl xs 1), .int .u64 (pl xs 2), .slice Av1 (segsB xs (pl xs 1).toNat (pl xs 3).toNat).length cv1, .slice Av2 (secsB xs (pl xs 2).toNat (pl xs 4).toNat).length cv2] [pl xs 0, pl xs 1, pl xs 2, pl xs 3, pl xs 4, pl xs 5, pl xs 6] (.slice Av1 (segsB xs (pl xs 1).toNat (pl xs 3).toNat).length cv1) (.slice Av2 (secsB xs (pl xs 2).toNat (pl xs 4).toNat).length cv2) (segsB xs (pl xs 1).toNat (pl xs 3).toNat) (secsB xs (pl xs 2).toNat (pl xs 4).toNat) 12) (by kernel_rfl) (by kernel_rfl) (fun k hk => ?_) ?_ ?_
  · exact ⟨by rw [hk 12 (by decide)]; exact HS7.out.1, HS7.out.2.1, Kd.R_drew HS7.out.2.2.1, Kd.R_drew HS7.out.2.2.2.1, bY_ HS7.out.2.2.2.2⟩
  · exact ⟨RS.StepE.pure 59 (by kernel_rfl) rfl (fun w => by kernel_rfl) (fun f w h => h),
      RS.StepE.load 60 (.pointer (some ⟨gq, 0, none⟩)) (by kernel_rfl) (by kernel_rfl) rfl (fun f w h => h) (fun k w p1 p2 h => run_indexAddr rfl (by kernel_rfl) (by kernel_rfl) (index_row gq 7 cq 0 (by decide) w)),
      RS.StepE.load 61 (.int .u64 (pl xs 0)) (by kernel_rfl) (by kernel_rfl) rfl (fun f w h => h) (fun k w p1 p2 h => run_load rfl (by kernel_rfl) (load_cell (k := .u64) Tryd.underlying23 (h.2.1 0 _ rfl))),
      RS.StepE.pure 62 (by kernel_rfl) rfl (fun w => by kernel_rfl) (fun f w h => h),
      RS.StepE.load 63 (.pointer (some ⟨gq, 1, none⟩)) (by kernel_rfl) (by kernel_rfl) rfl (fun f w h => h) (fun k w p1 p2 h => run_indexAddr rfl (by kernel_rfl) (by kernel_rfl) (index_row gq 7 cq 1 (by decide) w)),
      RS.StepE.load 64 (.int .u64 (pl xs 1)) (by kernel_rfl) (by kernel_rfl) rfl (fun f w h => h) (fun k w p1 p2 h => run_load rfl (by kernel_rfl) (load_cell (k := .u64) Tryd.underlying23 (h.2.1 1 _ rfl))),
      RS.StepE.pure 65 (by kernel_rfl) rfl (fun w => by kernel_rfl) (fun f w h => h),
      RS.StepE.load 66 (.pointer (some ⟨gq, 2, none⟩)) (by kernel_rfl) (by kernel_rfl) rfl (fun f w h => h) (fun k w p1 p2 h => run_indexAddr rfl (by kernel_rfl) (by kernel_rfl) (index_row gq 7 cq 2 (by decide) w)),
      RS.StepE.load 67 (.int .u64 (pl xs 2)) (by kernel_rfl) (by kernel_rfl) rfl (fun f w h => h) (fun k w p1 p2 h => run_load rfl (by kernel_rfl) (load_cell (k := .u64) Tryd.underlying23 (h.2.1 2 _ rfl))),
      RS.StepE.pure 68 (by kernel_rfl) rfl (fun w => by kernel_rfl) (fun f w h => h),
      RS.StepE.pure 69 (by kernel_rfl) rfl (fun w => by kernel_rfl) (fun f w h => h),
      RS.StepE.pure 70 (by kernel_rfl) rfl (fun w => by kernel_rfl) (fun f w h => h),
      RS.StepE.event undef (by intro d hd; cases hd) (by kernel_rfl) (fun k w h0 p1 p2 h => by
        have h0 : k 12 = false := h0
        obtain ⟨h1, h2, h3, h4, h5⟩ := h
        rw [h0] at h1
        have hoth : ∀ q, q ≠ g2 → (w.setRow g2 #[.int .u64 (pl xs 0), .int .u64 (pl xs 1), .int .u64 (pl xs 2), .slice Av1 (segsB xs (pl xs 1).toNat (pl xs 3).toNat).length cv1, .slice Av2 (secsB xs (pl xs 2).toNat (pl xs 4).toNat).length cv2]).heap[q]? = w.heap[q]? := fun q hq => setRow_other w g2 q _ hq
        refine ⟨_, .inr ⟨run_store_row (cells := #[.int .u64 (pl xs 0), .int .u64 (pl xs 1), .int .u64 (pl xs 2), .slice Av1 (segsB xs (pl xs 1).toNat (pl xs 3).toNat).length cv1, .slice Av2 (secsB xs (pl xs 2).toNat (pl xs 4).toNat).length cv2]) (old := #[.int .u64 0, .int .u64 0, .int .u64 0, .slice none 0 0, .slice none 0 0]) rfl (by kernel_rfl) (by kernel_rfl) h1 HIN.out rfl HONC.out, rfl⟩, setRow_heap w g2 _ _ 27 (0, 0) h1, fun j x hx => (cell_setRow _ (by have := HGQ.out; show gq ≠ g2; omega)).trans (h2 j x hx), Kd.R_step h3 (fun q hq _ => hoth q hq), Kd.R_step h4 (fun q hq _ => hoth q hq), below_setRow h5 (by have := HG2.out; omega) _⟩),
      RS.StepE.pure 3 (by kernel_rfl) rfl (fun w => by kernel_rfl) (fun f w h => h), trivial⟩
  rintro k w8 hk ⟨h1, h2, h3, h4, h5⟩
  rw [hk] at h1
  (try simp only [RS.sets, List.setIfInBounds_toArray, List.set_cons_zero, List.set_cons_succ])
  go_wp2_with fail
  exact bodyPost_ret (results_ctB rfl _ _ g2 27 #[.int .u64 (pl xs 0), .int .u64 (pl xs 1), .int .u64 (pl xs 2), .slice Av1 (segsB xs (pl xs 1).toNat (pl xs 3).toNat).length cv1, .slice Av2 (secsB xs (pl xs 2).toNat (pl xs 4).toNat).length cv2] (0, 0) _ rfl _ rfl h1 hu rfl HIN.out) rfl ⟨_, _, rfl, Kd.R_mono h3 (fun _ _ => trivial), Kd.R_mono h4 (fun _ _ => trivial), h5⟩
end Go.Proofs.YtopldeeojehklaaDoor.B
