/- names.Read: a table's symbols. made: a table's bytes and its header. -/
import Derived.Test.YtgdhciilobnelaaZf6
import Derived.WalkMore
import Derived.Shelf.Abstract
import Derived.Test.YtgdhciilobnelaaZf7
namespace Go.Proofs.Ytgdhciilobnelaa.B
open Go.RowKit Go.Lib Go.Proofs.YtgdhciilobnelaaW.PrintWords Go.Proofs.YtgdhciilobnelaaW.PrintLast Go.Proofs.YtgdhciilobnelaaW.PrintMore Go.RF
set_option linter.unusedVariables false
set_option linter.unusedSimpArgs false
attribute [local go_sem] max2_int min2_int max_two min_two
attribute [local go_sem] Oper.semAt_some
theorem index_s45 (ad : Addr) (n c i : Nat) (hi : i < n) (W : World) : (Instr.indexAt 28 (.slice (some ad) n c) (.int .u32 (i : Int))).run Try.prog W = .ok (.pointer (some (ad.add (i * 5)))) W := by
  have hu := Try.underlying28
  have hu5 := Try.underlying45
  have h1 : (0 : Int) ≤ (i : Int) := by omega
  have h2 : (i : Int) < (n : Int) := by omega
  go_simp
theorem run_fld45 {o : Oper} {ρ : Operand → Value} {x : Operand} {ad : Addr} {w : World} {i : Nat} (ho : o.op = .fieldAddr 45 x i) (hi : i = 1 ∨ i = 2) (hx : ρ x = .pointer (some ad)) : (execOp ρ o).run Try.prog w = .ok (.value (.pointer (some ⟨ad.block, ad.off + i, none⟩))) w := by
  rcases hi with rfl | rfl
  · unfold execOp
    simp only [ho, hx]
    have hu := Try.underlying45
    go_simp
  · unfold execOp
    simp only [ho, hx]
    have hu := Try.underlying45
    go_simp
set_option maxHeartbeats 8000000 in
set_option maxRecDepth 100000 in
theorem part_any (A : Option Addr) (c : Nat) (xs : List Int) (at_ sz : Int) (hc : xs.length ≤ c) (hn : xs.length ≤ 1000000) (ha : Rg at_) (hz : Rg sz) :
    ∃ A' n' c', (∀ W : World, Calls Try.prog 21 #[.slice A xs.length c, .int .u64 at_, .int .u64 sz] W fun e w' => e = .returned (.tuple #[.slice A' n' c', .bool (decide (fits xs.length at_ sz))]) ∧ w' = W) ∧
      (fits xs.length at_ sz → n' = ((xs.drop at_.toNat).take sz.toNat).length ∧ n' ≤ c' ∧ ∀ W, Kd.C (Kd.int .u8) W A xs.length xs → Kd.C (Kd.int .u8) W A' n' ((xs.drop at_.toNat).take sz.toNat)) := by
  by_cases h : fits xs.length at_ sz
  · obtain ⟨a, rfl⟩ : ∃ a : Nat, at_ = (a : Int) := ⟨at_.toNat, by have := ha.1; omega⟩
    obtain ⟨s, rfl⟩ : ∃ a : Nat, sz = (a : Int) := ⟨sz.toNat, by have := hz.1; omega⟩
    have h' := h
    unfold fits at h'
    have hfit : a + s ≤ xs.length := by omega
    rw [decide_eq_true h]
    have hi5 : ∃ i, Try.prog.info? 5 = some i ∧ i.size = 1 := by
      have := infoB
      obtain ⟨i, h1, h2⟩ := Option.map_eq_some_iff.1 this
      simp only [Prod.mk.injEq] at h2
      exact ⟨i, h1, h2.2.1⟩
    obtain ⟨i5, hi5, hs5⟩ := hi5
    obtain ⟨A', hcut, hrd, hcl⟩ := print_mid_of (P := Try.prog) (Value.int .u8) 0 23 5 .u64 .u64 Try.underlying23 hi5 hs5 A c xs (a : Int) ((a : Int) + (s : Int)) (by omega) (by omega) (by omega) hc
    have e1 : ((a : Int) + (s : Int)).toNat = a + s := by omega
    have e2 : ((xs.take (a + s)).drop a).length = s := by rw [List.length_drop, List.length_take]; omega
    have e3 : (xs.take (a + s)).drop a = (xs.drop a).take s := by rw [List.drop_take]; congr 1; omega
    rw [e1, Int.toNat_natCast] at hcut hrd hcl
    rw [e2] at hcut hrd hcl
    rw [e3] at hrd e2
    refine ⟨A', s, c - a, fun W => ?_, fun _ => ⟨by rw [Int.toNat_natCast, Int.toNat_natCast, e2], hcl, fun W hC => by rw [Int.toNat_natCast, Int.toNat_natCast]; exact Kd.C_of_reads (h1 := fun _ => rfl) (hrd W (Kd.reads_of_C hC))⟩⟩
    clear hrd hcl e1 e2 e3 h ha hz
    obtain ⟨n, hn'⟩ : ∃ n, xs.length = n := ⟨_, rfl⟩
    rw [hn'] at hn h' hcut hc hfit ⊢
    have w1 : IntKind.u64.wrap (n : Int) = (n : Int) := wrapU (by omega) (by omega)
    have w2 : IntKind.u64.wrap ((n : Int) - (a : Int)) = (n : Int) - (a : Int) := wrapU (by omega) (by omega)
    have w3 : IntKind.u64.wrap ((a : Int) + (s : Int)) = (a : Int) + (s : Int) := wrapU (by omega) (by omega)
    have d1 : decide ((n : Int) < (a : Int)) = false := decide_eq_false (by omega)
    have d2 : decide ((n : Int) - (a : Int) < (s : Int)) = false := decide_eq_false (by omega)
    clear hn' h'
    go_enter Try.func21, Try.ntmps21
    go_wp2
    go_ret2
    exact ⟨rfl, rfl⟩
  · exact ⟨none, 0, 0, fun W => (part_no A xs.length c at_ sz W ha hz hn h).mono (fun e w' h' => by rw [decide_eq_false h]; exact h'), fun h' => absurd h' h⟩
theorem row_low {w : World} {A' : Option Addr} {n' : Nat} {T : List Int} (h : Kd.C (Kd.int .u8) w A' n' T) (hn : n' = T.length) (h0 : 0 < T.length) : ∃ ad, A' = some ad ∧ Row8 w ad T ∧ ad.block < w.heap.size := by
  subst hn
  obtain ⟨ad, e, hr⟩ := C_row8 h h0
  refine ⟨ad, e, hr, ?_⟩
  have := World.block_lt_of_cell? w _ (hr 0 h0)
  rwa [block_add] at this
def Sec45 (s : S45) : Prop := 0 ≤ s.f0 ∧ s.f0 < 4294967296 ∧ Rg s.f1 ∧ Rg s.f2 ∧ 0 ≤ s.f3 ∧ s.f3 < 4294967296 ∧ Rg s.f4
def goodN (s : S45) (C : List S45) : Bool := s.f4 == 24 && (s.f2 % 24 == 0 && (decide (s.f2 / 24 ≤ 200) && (decide (s.f3 < (C.length : Int)) && (C.getD s.f3.toNat z45).f0 == 3)))
def gathN (L : List (S38 × Bool)) : List S38 × Int := if L.all (·.2) = true then (L.map (·.1), 0) else ([], 33)
def cutN (xs : List Int) (s : S45) : List Int := (xs.drop s.f1.toNat).take s.f2.toNat
def secI (C : List S45) : Int := firstI (fun s : S45 => s.f0 == 2) C 0
def readN (xs : List Int) (C : List S45) : List S38 × Int :=
  if 32 < C.length then ([], 2) else if secI C < 0 then ([], 0) else
    if goodN (C.getD (secI C).toNat z45) C = true then
      if fits xs.length (C.getD (secI C).toNat z45).f1 (C.getD (secI C).toNat z45).f2 ∧ fits xs.length (C.getD (C.getD (secI C).toNat z45).f3.toNat z45).f1 (C.getD (C.getD (secI C).toNat z45).f3.toNat z45).f2 then
        gathN (symL (cutN xs (C.getD (secI C).toNat z45)) (cutN xs (C.getD (C.getD (secI C).toNat z45).f3.toNat z45)))
      else ([], 33)
    else ([], 32)
theorem read_end {tm : Array Value} {W : World} {g4 g5 : Nat} {v : Value} {e : Int} {R : Ending → World → Prop} (h4 : tm[4]?.getD undef = .pointer (some ⟨g4, 0, none⟩)) (h5 : tm[5]?.getD undef = .pointer (some ⟨g5, 0, none⟩))
    (k4 : W.heap[g4]? = some (.cells #[v] 33 (0, 0))) (k5 : W.heap[g5]? = some (.cells #[.int .i64 e] 34 (0, 0))) (h : R (.returned (.tuple #[v, .int .i64 e])) W) : endM Try.prog Try.f10 R .ret { tmps := tm, defers := [] } W := by
  have c4 := (cell_of_block k4).1
  have c5 := (cell_of_block k5).1
  refine end_plain (v := .tuple #[v, .int .i64 e]) rfl ?_ h
  simp [results, Try.f10, go_sem, h4, h5, c4, c5]
theorem blk_other {W : World} {b : Nat} {o : Obj} (h : W.heap[b]? = some o) {a : Addr} (ne : b ≠ a.block) (v : Value) : (W.setCell a v).heap[b]? = some o := (Below.heap_setCell W a v b ne).trans h
theorem two_boxes {W : World} {g4 g5 t4 t5 : Nat} {u u5 : Value} (k4 : W.heap[g4]? = some (.cells #[u] t4 (0, 0))) (k5 : W.heap[g5]? = some (.cells #[u5] t5 (0, 0))) (ne : g4 ≠ g5) (v : Value) :
    W.cell? ⟨g4, 0, none⟩ = some u ∧ W.frozen? ⟨g4, 0, none⟩ = false ∧ (W.setCell ⟨g4, 0, none⟩ v).cell? ⟨g5, 0, none⟩ = some u5 ∧ (W.setCell ⟨g4, 0, none⟩ v).frozen? ⟨g5, 0, none⟩ = false :=
  ⟨(cell_of_block k4).1, (cell_of_block k4).2, (cell_of_block (blk_other k5 (by exact Ne.symm ne) v)).1, (cell_of_block (blk_other k5 (by exact Ne.symm ne) v)).2⟩
def Rd38 (w w' : World) (v : Value) (r : List S38) : Prop := Kd.R k38 38 w' w.heap.size (fun _ => True) v r ∧ Below w.heap.size w w'
theorem nil_R38 (w w' : World) (h : Below w.heap.size w w') : Rd38 w w' (.slice none 0 0) [] := ⟨Kd.R_nil k38 38 w' _ _, h⟩
theorem rows_snoc (pre : List (S38 × Bool)) (x : S38 × Bool) : ((pre ++ [x]).flatMap fun y => (encS y.1).toList) = (pre.flatMap fun y => (encS y.1).toList) ++ (encS x.1).toList := by simp
def RdI (w : World) (g4 g5 B : Nat) (pre : List (S38 × Bool)) (W : World) : Prop := Below w.heap.size w W ∧ W.heap[g5]? = some (.cells #[.int .i64 0] 34 (0, 0)) ∧ (∀ x ∈ pre, x.2 = true) ∧
  ∃ v, W.heap[g4]? = some (.cells #[v] 33 (0, 0)) ∧ W.ownsRow B 38 4 v pre.length (pre.flatMap fun y => (encS y.1).toList)
def RdX (w : World) (g4 g5 : Nat) (c : Code) (pre : List (S38 × Bool)) (W : World) : Prop := c = .exit 0 ∧ Below w.heap.size w W ∧ W.heap[g4]? = some (.cells #[.slice none 0 0] 33 (0, 0)) ∧ W.heap[g5]? = some (.cells #[.int .i64 33] 34 (0, 0)) ∧ ∃ x ∈ pre, x.2 = false
theorem RdI_stable {w : World} {g4 g5 Qa Q8 : Nat} (h : w.heap.size ≤ Qa ∧ g4 < Qa ∧ g5 < Qa ∧ Q8 = Qa + 2) : Stable (fun k => k = Qa ∨ k = Q8 ∨ k = Q8 + 1) (RdI w g4 g5 (Q8 + 2)) := fun s A B hs hk => by
  obtain ⟨h1, h2, h3, v, h4, h5⟩ := hs
  refine ⟨h1.trans (hk.below h1.size (fun k _ h => by omega)), hk.at_ h2 (by omega), h3, v, hk.at_ h4 (by omega), own_move h5 (fun k hk' => hk.block k (own_lt h5 k hk') (by have := own_base h5 k hk'; omega))⟩
theorem RdX_stable {w : World} {g4 g5 Qa Q8 : Nat} (h : w.heap.size ≤ Qa ∧ g4 < Qa ∧ g5 < Qa ∧ Q8 = Qa + 2) (c : Code) : Stable (fun k => k = Qa ∨ k = Q8 ∨ k = Q8 + 1) (RdX w g4 g5 c) := fun s A B hs hk => by
  obtain ⟨h0, h1, h2, h3, h4⟩ := hs
  exact ⟨h0, h1.trans (hk.below h1.size (fun k _ h => by omega)), hk.at_ h2 (by omega), hk.at_ h3 (by omega), h4⟩
theorem syms_iter0 (gt : Nat) (A1 : Option Addr) (c1 : Nat) (Z : List Int) (W : World) (R : Nat → Prop) (z : Value) (ht : W.heap[gt]? = some (.cells #[.slice A1 0 c1] 23 (0, 0))) :
    Iter Try.prog 33 #[.pointer (some ⟨gt, 0, none⟩), z] encX (fun k => k = gt) R (symL [] Z) W := by
  intro lp J Jx hJ hJx hY h0
  refine callsIn_wide.2 ?_
  simp only [List.append_toArray, List.cons_append, List.nil_append]
  have HJ := Aside0.mk (show J (symL [] Z) W from h0)
  have cg := (cell_of_block ht).1
  clear hY ht h0
  go_enter Try.func33, Try.ntmps33
  go_wp2_with fail
  go_loopw [] (fun wr => wr = W) (fun wr => 0)
  case atStart => rfl
  case round =>
    subst hrel
    go_wp2
    go_end0
    exact ⟨⟨_, rfl⟩, .inl HJ.out⟩
theorem load33 {W : World} {ad : Addr} {A : Option Addr} {n c : Nat} (h : W.cell? ad = some (.slice A n c)) : (Instr.loadAt 33 (.pointer (some ad))).run Try.prog W = .ok (.slice A n c) W := by
  have hu := Try.underlying33
  go_simp
theorem store33 {o : Oper} {ρ : Operand → Value} {x y : Operand} {W : World} {g : Nat} {A : Option Addr} {n c : Nat} {u : Value} (ho : o.op = .store 33 x y) (hx : ρ x = .pointer (some ⟨g, 0, none⟩)) (hy : ρ y = .slice A n c) (h : W.heap[g]? = some (.cells #[u] 33 (0, 0))) :
    (execOp ρ o).run Try.prog W = .ok .skip (W.setCell ⟨g, 0, none⟩ (.slice A n c)) := by
  have hu := Try.underlying33
  obtain ⟨h1, h2⟩ := cell_of_block h
  unfold execOp
  simp only [ho, hx, hy]
  go_simp
theorem store34 {o : Oper} {ρ : Operand → Value} {x y : Operand} {W : World} {g : Nat} {i : Int} {u : Value} (ho : o.op = .store 34 x y) (hx : ρ x = .pointer (some ⟨g, 0, none⟩)) (hy : ρ y = .int .i64 i) (h : W.heap[g]? = some (.cells #[u] 34 (0, 0))) :
    (execOp ρ o).run Try.prog W = .ok .skip (W.setCell ⟨g, 0, none⟩ (.int .i64 i)) := by
  have hu := Try.underlying34
  obtain ⟨h1, h2⟩ := cell_of_block h
  unfold execOp
  simp only [ho, hx, hy]
  go_simp
theorem read_leave {tm : Array Value} {D : Nat} {W : World} {g4 g5 : Nat} {v : Value} {e : Int} {R : Ending → World → Prop} (h4 : tm[4]?.getD undef = .pointer (some ⟨g4, 0, none⟩)) (h5 : tm[5]?.getD undef = .pointer (some ⟨g5, 0, none⟩))
    (k4 : W.heap[g4]? = some (.cells #[v] 33 (0, 0))) (k5 : W.heap[g5]? = some (.cells #[.int .i64 e] 34 (0, 0))) (n4 : g4 ≠ D) (n5 : g5 ≠ D) (hK : W.heap[D]? = some (.deferred (some []))) (h : R (.returned (.tuple #[v, .int .i64 e])) (W.putObj D (.deferred none))) :
    endM Try.prog Try.f10 R .ret { tmps := tm, defers := [{ target := .collected D, args := #[] }] } W := by
  have c4 := (cell_of_block ((World.putObj_heap_other (r := D) (o := .deferred none) n4).trans k4)).1
  have c5 := (cell_of_block ((World.putObj_heap_other (r := D) (o := .deferred none) n5).trans k5)).1
  refine end_mark (v := .tuple #[v, .int .i64 e]) rfl hK ?_ h
  simp [results, Try.f10, go_sem, h4, h5, c4, c5]
theorem reps38 {W : World} {base : Nat} {ok : Nat → Prop} : ∀ (l : List (S38 × Bool)) (ps : List S38) (cs : List Value), Reps (k38.M W base ok) k38.sz ps cs → Reps (k38.M W base ok) k38.sz (ps ++ l.map (·.1)) (cs ++ l.flatMap fun y => (encS y.1).toList)
  | [], ps, cs, h => by simpa using h
  | x :: r, ps, cs, h => by
    have := reps38 r (ps ++ [x.1]) (cs ++ (encS x.1).toList) (h.snoc (k38_mkM W base ok x.1) rfl)
    simpa [List.append_assoc] using this
theorem R38_of_own {W : World} {base : Nat} {v : Value} {l : List (S38 × Bool)} (h : W.ownsRow base 38 4 v l.length (l.flatMap fun y => (encS y.1).toList)) : Kd.R k38 38 W base (fun _ => True) v (l.map (·.1)) := by
  refine ⟨fun _ _ => trivial, _, by rw [List.length_map]; exact h, ?_⟩
  have := reps38 (W := W) (base := base) (ok := fun k => (fun x => True) k ∧ some k ≠ v.ownBlock) l [] [] (Reps.none _ _)
  simpa using this
theorem gath_ok {l : List (S38 × Bool)} (h : ∀ x ∈ l, x.2 = true) : gathN l = (l.map (·.1), 0) := by
  unfold gathN
  rw [if_pos (List.all_eq_true.2 (fun x hx => h x hx))]
theorem gath_no {l pre suf : List (S38 × Bool)} (hl : l = pre ++ suf) {x : S38 × Bool} (hx : x ∈ pre) (h : x.2 = false) : gathN l = ([], 33) := by
  unfold gathN
  rw [if_neg (fun hh => by have := List.all_eq_true.1 hh x (by rw [hl]; exact List.mem_append_left _ hx); rw [h] at this; cases this)]
set_option maxHeartbeats 8000000 in
set_option maxRecDepth 100000 in
theorem read_calls (A : Option Addr) (c : Nat) (xs : List Int) (h0 h1 h2 : Int) (A3 : Option Addr) (n3 c3 : Nat) (A4 : Option Addr) (c4 n : Nat) (C : List S45) (w : World)
    (hX : Kd.C (Kd.int .u8) w A xs.length xs) (hc : xs.length ≤ c) (hm : xs.length ≤ 1000000) (hbx : BB xs) (hA : 0 < xs.length ∨ n = 0)
    (hC : Kd.C k45 w A4 C.length C) (hn : C.length = n) (hnm : n ≤ 1000000) (hS : ∀ s ∈ C, Sec45 s) :
    Calls Try.prog 10 #[.slice A xs.length c, .agg #[.int .u64 h0, .int .u64 h1, .int .u64 h2, .slice A3 n3 c3, .slice A4 n c4]] w fun e w' =>
      ∃ v, e = .returned (.tuple #[v, .int .i64 (readN xs C).2]) ∧ Rd38 w w' v (readN xs C).1 := by
  have HX := Aside0.mk hX
  have HCX := Aside0.mk hc
  have HM := Aside0.mk hm
  have HBX := Aside0.mk hbx
  have HA := Aside0.mk hA
  have HC := Aside0.mk hC
  have HN := Aside0.mk hn
  have HS := Aside0.mk hS
  clear hX hc hm hbx hA hC hn hS
  obtain ⟨nx, hnx⟩ : ∃ nx, xs.length = nx := ⟨_, rfl⟩
  have HNX := Aside0.mk hnx
  rw [hnx]
  clear hnx
  refine calls_of_end Try.func10 rfl ?_
  simp only [Try.ntmps10, List.size_toArray, List.length_cons, List.length_nil, Nat.reduceAdd, Nat.reduceSub, Array.replicate_succ, Array.replicate_zero, List.push_toArray, List.append_toArray, List.nil_append, List.cons_append]
  go_wp2_with (first | ((with_reducible refine gate_dst (N := 3) rfl ?_); refine box_event ?hg (N := 3) ?hd (cs := #[.int .u64 h0, .int .u64 h1, .int .u64 h2, .slice A3 n3 c3, .slice (A4) n c4]) (t := 30) ?hr ?_; (case hd => rfl); (case hg => rfl); (case hr => first | (go_simp; done) | (go_simp; rfl)); intro g3 hg w1 hbox hb; have HB1 := Aside0.mk hb; have K3 := Aside0.mk hbox; clear hg hbox hb) | ((with_reducible refine gate_dst (N := 4) rfl ?_); refine box_event ?hg (N := 4) ?hd (cs := #[.slice none 0 0]) (t := 33) ?hr ?_; (case hd => rfl); (case hg => rfl); (case hr => first | (go_simp; done) | (go_simp; rfl)); intro g4 hg w2 hbox hb; have HG4 := Aside0.mk hg; have HB2 := Aside0.mk (below_step HB1.out hb); have K3b := Aside0.mk (heap_below hb K3.out); have K4a := Aside0.mk hbox; clear hg hbox hb) | ((with_reducible refine gate_dst (N := 5) rfl ?_); refine box_event ?hg (N := 5) ?hd (cs := #[.int .i64 0]) (t := 34) ?hr ?_; (case hd => rfl); (case hg => rfl); (case hr => first | (go_simp; done) | (go_simp; rfl)); intro g5 hg w3 hbox hb; have HG5 := Aside0.mk hg; have HB3 := Aside0.mk (below_step HB2.out hb); have hc34 : w3.cell? ⟨g3, 4, none⟩ = some (.slice A4 n c4) := (bC_ (heap_below hb K3b.out) 4).trans rfl; have K4 := Aside0.mk (heap_below hb K4a.out); have K5 := Aside0.mk hbox; clear hg hbox hb))
  apply wp_scope_straight
  go_upto_region 2 with (fail)
  have hle4 := Aside0.mk (show w.heap.size ≤ g4 by rw [HG4.out]; exact HB1.out.size)
  have hle5 := Aside0.mk (show w.heap.size ≤ g5 by rw [HG5.out]; exact HB2.out.size)
  have n45 := Aside0.mk (show g4 ≠ g5 by intro h; have := blk_lt K4a.out; rw [HG5.out] at h; omega)
  clear K3 K3b K4a hc34
  have NUL := Aside0.mk (fun (W : World) (er : Int) (h : Below w.heap.size w W) (hr : (readN xs C) = ([], er)) => (⟨_, by rw [hr], by rw [hr]; exact nil_R38 w W h⟩ : ∃ v, Ending.returned (.tuple #[.slice none 0 0, .int .i64 er]) = .returned (.tuple #[v, .int .i64 (readN xs C).2]) ∧ Rd38 w W v (readN xs C).1))
  by_cases hmany : 32 < n
  · have d1 : decide ((32 : Int) < (n : Int)) = true := decide_eq_true (by omega)
    have HMANY := Aside0.mk (show readN xs C = ([], 2) by unfold readN; rw [if_pos (by rw [HN.out]; exact hmany)])
    clear hmany
    obtain ⟨cb1, fb1, cb2, fb2⟩ := two_boxes K4.out K5.out n45.out (.slice none 0 0)
    go_wp2
    refine read_end (g4 := g4) (g5 := g5) (v := .slice none 0 0) (e := 2) ?_ ?_ ?_ ?_ ?_
    · rfl
    · rfl
    · exact blk_other (blk_store K4.out _) n45.out _
    · exact blk_store (blk_other K5.out (by exact Ne.symm n45.out) _) _
    · exact NUL.out _ 2 ((HB3.out.setCell (by exact hle4.out) _).setCell (by exact hle5.out) _) HMANY.out
  have d1 : decide ((32 : Int) < (n : Int)) = false := decide_eq_false (by omega)
  have HFEW := Aside0.mk hmany
  clear hmany
  go_upto_region 5 with (first | (go_at_call 19; refine (index_sec A4 c4 n C _ (Kd.C_below HC.out HB3.out) HN.out hnm).mono ?_; rintro e w4 ⟨rfl, hb⟩; have HB4 := Aside0.mk (below_step HB3.out hb); have J4 := Aside0.mk (heap_below hb K4.out); have J5 := Aside0.mk (heap_below hb K5.out); clear hb))
  clear K4 K5
  have HSEC := Aside0.mk (show secI C = firstI (fun s : S45 => s.f0 == 2) C 0 from rfl)
  rcases firstI_rg (fun s : S45 => s.f0 == 2) C 0 with ⟨i1, i2⟩ | ⟨j, i1, i2, i3, i4⟩
  · rw [i1]
    have HR := Aside0.mk (show readN xs C = ([], 0) by unfold readN; rw [if_neg (by rw [HN.out]; exact HFEW.out), if_pos (by rw [HSEC.out, i1]; decide)])
    clear i1 i2
    obtain ⟨cb1, fb1, cb2, fb2⟩ := two_boxes J4.out J5.out n45.out (.slice none 0 0)
    go_wp2
    refine read_end (g4 := g4) (g5 := g5) (v := .slice none 0 0) (e := 0) ?_ ?_ ?_ ?_ ?_
    · rfl
    · rfl
    · exact blk_other (blk_store J4.out _) n45.out _
    · exact blk_store (blk_other J5.out (by exact Ne.symm n45.out) _) _
    · exact NUL.out _ 0 ((HB4.out.setCell (by exact hle4.out) _).setCell (by exact hle5.out) _) HR.out
  rw [show 0 + j = j by omega] at i1
  rw [i1] at HSEC ⊢
  have hj : j < n := by rw [← HN.out]; exact i2
  have HJ := Aside0.mk hj
  clear i1 i2 i3 i4
  have e1 : decide ((j : Int) < 0) = false := decide_eq_false (by omega)
  have p1 : 0 ≤ (j : Int) := by omega
  have q1 : (j : Int) < (n : Int) := by omega
  have HA0 := Aside0.mk (show 0 < xs.length from HA.out.resolve_right (by omega))
  obtain ⟨a4, ea, -, hx0, hx1, hx2, hx3, hx4⟩ := el45 (Kd.C_below HC.out HB4.out) HN.out j hj
  subst ea
  have HRN := Aside0.mk (show readN xs C = if goodN (C.getD j z45) C = true then
      if fits xs.length (C.getD j z45).f1 (C.getD j z45).f2 ∧ fits xs.length (C.getD (C.getD j z45).f3.toNat z45).f1 (C.getD (C.getD j z45).f3.toNat z45).f2 then
        gathN (symL (cutN xs (C.getD j z45)) (cutN xs (C.getD (C.getD j z45).f3.toNat z45)))
      else ([], 33)
    else ([], 32) by unfold readN; rw [if_neg (by rw [HN.out]; exact HFEW.out), HSEC.out, if_neg (by omega), Int.toNat_natCast])
  have HSJ := Aside0.mk (HS.out (C.getD j z45) (by rw [List.getD_eq_getElem?_getD, List.getElem?_eq_getElem (by rw [HN.out]; exact hj)]; exact List.getElem_mem _))
  replace p1 := eq_true p1
  replace q1 := eq_true q1
  clear hj HSEC
  generalize C.getD j z45 = s at *
  obtain ⟨s0, s1, s2, s3, s4⟩ := s
  dsimp only [decide_eq_true_eq] at hx0 hx1 hx2 hx3 hx4
  go_upto_region 8 with (first | ((with_reducible refine gate_dst (N := 8) rfl ?_); refine box_event ?hg (N := 8) ?hd (cs := #[.int .u32 0, .int .u64 0, .int .u64 0, .int .u32 0, .int .u64 0]) (t := 45) ?hr ?_; (case hd => rfl); (case hg => rfl); (case hr => first | (go_simp; done) | (go_simp; rfl)); intro g8 hg w5 hbox hb; have HG8 := Aside0.mk hg; have HB5 := Aside0.mk (below_step HB4.out hb); have L4 := Aside0.mk (heap_below hb J4.out); have L5 := Aside0.mk (heap_below hb J5.out); have BK8 := Aside0.mk hbox; clear hg hbox hb) | (with_reducible refine wpList_store_row rfl 45 (.tmp 8) (.tmp 27) rfl g8 #[.int .u32 s0, .int .u64 s1, .int .u64 s2, .int .u32 s3, .int .u64 s4] rfl rfl 45 #[.int .u32 0, .int .u64 0, .int .u64 0, .int .u32 0, .int .u64 0] BK8.out (by kernel_rfl) rfl (by simp [Value.oneCell']) ?_))
  have hle8 : w.heap.size ≤ g8 := by rw [HG8.out]; exact HB4.out.size
  have n84 : g8 ≠ g4 := by have := blk_lt J4.out; rw [HG8.out]; omega
  have n85 : g8 ≠ g5 := by have := blk_lt J5.out; rw [HG8.out]; omega
  have k8 := setRow_heap w5 g8 _ #[.int .u32 s0, .int .u64 s1, .int .u64 s2, .int .u32 s3, .int .u64 s4] 45 (0, 0) BK8.out
  have k4 := (setRow_other w5 g8 g4 #[.int .u32 s0, .int .u64 s1, .int .u64 s2, .int .u32 s3, .int .u64 s4] (Ne.symm n84)).trans L4.out
  have k5 := (setRow_other w5 g8 g5 #[.int .u32 s0, .int .u64 s1, .int .u64 s2, .int .u32 s3, .int .u64 s4] (Ne.symm n85)).trans L5.out
  have hb6 := below_setRow HB5.out hle8 #[.int .u32 s0, .int .u64 s1, .int .u64 s2, .int .u32 s3, .int .u64 s4]
  clear hle8 hx0 hx1 hx2 hx3 hx4
  generalize w5.setRow g8 #[.int .u32 s0, .int .u64 s1, .int .u64 s2, .int .u32 s3, .int .u64 s4] = w6 at *
  have K8 := Aside0.mk k8
  have K4 := Aside0.mk k4
  have K5 := Aside0.mk k5
  have HB6 := Aside0.mk hb6
  have N84 := Aside0.mk n84
  have N85 := Aside0.mk n85
  have c81 : w6.cell? ⟨g8, 1, none⟩ = some (.int .u64 s1) := (bC_ k8 1).trans rfl
  have c82 : w6.cell? ⟨g8, 2, none⟩ = some (.int .u64 s2) := (bC_ k8 2).trans rfl
  have c83 : w6.cell? ⟨g8, 3, none⟩ = some (.int .u32 s3) := (bC_ k8 3).trans rfl
  have c84 : w6.cell? ⟨g8, 4, none⟩ = some (.int .u64 s4) := (bC_ k8 4).trans rfl
  clear k8 k4 k5 hb6 n84 n85 HB5 BK8 J4 J5 L4 L5 e1 p1 q1 d1
  by_cases b4 : s4 = 24
  rotate_left
  · skip
    have HR := Aside0.mk (show readN xs C = ([], 32) from HRN.out.trans (if_neg (by unfold goodN; simp [b4])))
    obtain ⟨cb1, fb1, cb2, fb2⟩ := two_boxes K4.out K5.out n45.out (.slice none 0 0)
    go_wp2
    refine read_end (g4 := g4) (g5 := g5) (v := .slice none 0 0) (e := 32) ?_ ?_ ?_ ?_ ?_
    · rfl
    · rfl
    · exact blk_other (blk_store K4.out _) n45.out _
    · exact blk_store (blk_other K5.out (by exact Ne.symm n45.out) _) _
    · exact NUL.out _ 32 ((HB6.out.setCell (by exact hle4.out) _).setCell (by exact hle5.out) _) HR.out
  subst b4
  have r2 := HSJ.out.2.2.2.1
  unfold Rg at r2
  dsimp only at r2
  have wm : s2.tmod 24 = s2 % 24 := Int.tmod_eq_emod_of_nonneg r2.1
  have wd : IntKind.u64.wrap (s2.tdiv 24) = s2 / 24 := by rw [Int.tdiv_eq_ediv_of_nonneg r2.1]; exact wrapU (by omega) (by omega)
  have R2 := Aside0.mk r2
  clear r2
  obtain ⟨m, hm⟩ : ∃ m, s2 % 24 = m := ⟨_, rfl⟩
  obtain ⟨d, hd⟩ : ∃ d, s2 / 24 = d := ⟨_, rfl⟩
  rw [hm] at wm
  rw [hd] at wd
  have HMM := Aside0.mk hm
  have HDD := Aside0.mk hd
  clear hm hd
  by_cases b2 : m = 0
  rotate_left
  · skip
    have HR := Aside0.mk (show readN xs C = ([], 32) from HRN.out.trans (if_neg (by unfold goodN; dsimp only; rw [HMM.out]; simp [b2])))
    obtain ⟨cb1, fb1, cb2, fb2⟩ := two_boxes K4.out K5.out n45.out (.slice none 0 0)
    go_wp2
    refine read_end (g4 := g4) (g5 := g5) (v := .slice none 0 0) (e := 32) ?_ ?_ ?_ ?_ ?_
    · rfl
    · rfl
    · exact blk_other (blk_store K4.out _) n45.out _
    · exact blk_store (blk_other K5.out (by exact Ne.symm n45.out) _) _
    · exact NUL.out _ 32 ((HB6.out.setCell (by exact hle4.out) _).setCell (by exact hle5.out) _) HR.out
  subst b2
  have B2 := Aside0.mk HMM.out
  by_cases b3 : d ≤ 200
  rotate_left
  · have q3 : decide (200 < d) = true := decide_eq_true (by omega)
    have HR := Aside0.mk (show readN xs C = ([], 32) from HRN.out.trans (if_neg (by unfold goodN; dsimp only; rw [HDD.out]; simp [b3])))
    clear b3
    obtain ⟨cb1, fb1, cb2, fb2⟩ := two_boxes K4.out K5.out n45.out (.slice none 0 0)
    go_wp2
    refine read_end (g4 := g4) (g5 := g5) (v := .slice none 0 0) (e := 32) ?_ ?_ ?_ ?_ ?_
    · rfl
    · rfl
    · exact blk_other (blk_store K4.out _) n45.out _
    · exact blk_store (blk_other K5.out (by exact Ne.symm n45.out) _) _
    · exact NUL.out _ 32 ((HB6.out.setCell (by exact hle4.out) _).setCell (by exact hle5.out) _) HR.out
  have q3 : decide (200 < d) = false := decide_eq_false (by omega)
  have B3 := Aside0.mk (show s2 / 24 ≤ 200 by rw [HDD.out]; exact b3)
  clear b3
  have q5 : wrap64 s3 = s3 := by have h1 := HSJ.out.2.2.2.2.1; have h2 := HSJ.out.2.2.2.2.2.1; dsimp only at h1 h2; unfold wrap64; omega
  by_cases b5 : s3 < (n : Int)
  rotate_left
  · have q6 : decide ((n : Int) ≤ s3) = true := decide_eq_true (by omega)
    have HR := Aside0.mk (show readN xs C = ([], 32) from HRN.out.trans (if_neg (by unfold goodN; rw [HN.out]; simp [b5])))
    obtain ⟨cb1, fb1, cb2, fb2⟩ := two_boxes K4.out K5.out n45.out (.slice none 0 0)
    go_wp2
    refine read_end (g4 := g4) (g5 := g5) (v := .slice none 0 0) (e := 32) ?_ ?_ ?_ ?_ ?_
    · rfl
    · rfl
    · exact blk_other (blk_store K4.out _) n45.out _
    · exact blk_store (blk_other K5.out (by exact Ne.symm n45.out) _) _
    · exact NUL.out _ 32 ((HB6.out.setCell (by exact hle4.out) _).setCell (by exact hle5.out) _) HR.out
  have q6 : decide ((n : Int) ≤ s3) = false := decide_eq_false (by omega)
  obtain ⟨k, rfl⟩ : ∃ k : Nat, s3 = (k : Int) := ⟨s3.toNat, by have := HSJ.out.2.2.2.2.1; dsimp only at this; omega⟩
  have hk : k < n := by omega
  have HK := Aside0.mk hk
  have p1 : 0 ≤ (k : Int) := by omega
  have q1 : (k : Int) < (n : Int) := by omega
  obtain ⟨a4', ea, -, hy0, hy1, hy2, hy3, hy4⟩ := el45 (Kd.C_below HC.out HB6.out) HN.out k hk
  cases ea
  have HSK := Aside0.mk (HS.out (C.getD k z45) (by rw [List.getD_eq_getElem?_getD, List.getElem?_eq_getElem (by rw [HN.out]; exact hk)]; exact List.getElem_mem _))
  replace p1 := eq_true p1
  replace q1 := eq_true q1
  have HRN2 := Aside0.mk (show (C.getD k z45).f0 = 3 → readN xs C = if fits xs.length s1 s2 ∧ fits xs.length (C.getD k z45).f1 (C.getD k z45).f2 then gathN (symL (cutN xs ⟨0, s1, s2, 0, 0⟩) (cutN xs (C.getD k z45))) else ([], 33) from fun hz => HRN.out.trans ((if_pos (by unfold goodN; rw [HN.out, Int.toNat_natCast, hz]; simp [B2.out, B3.out, HK.out])).trans (by rw [Int.toNat_natCast]; rfl)))
  have HRN3 := Aside0.mk (show (C.getD k z45).f0 ≠ 3 → readN xs C = ([], 32) from fun hz => HRN.out.trans (if_neg (by rw [List.getD_eq_getElem?_getD] at hz; unfold goodN; rw [Int.toNat_natCast]; simp [hz])))
  clear HRN
  generalize C.getD k z45 = z at *
  obtain ⟨z0, z1, z2, z3, z4⟩ := z
  dsimp only at hy0 hy1 hy2 hy3 hy4
  by_cases b6 : z0 = 3
  rotate_left
  · have q7 : (z0 != 3) = true := by simp [b6]
    have HR := Aside0.mk (HRN3.out b6)
    obtain ⟨cb1, fb1, cb2, fb2⟩ := two_boxes K4.out K5.out n45.out (.slice none 0 0)
    go_wp2
    refine read_end (g4 := g4) (g5 := g5) (v := .slice none 0 0) (e := 32) ?_ ?_ ?_ ?_ ?_
    · rfl
    · rfl
    · exact blk_other (blk_store K4.out _) n45.out _
    · exact blk_store (blk_other K5.out (by exact Ne.symm n45.out) _) _
    · exact NUL.out _ 32 ((HB6.out.setCell (by exact hle4.out) _).setCell (by exact hle5.out) _) HR.out
  subst b6
  have HRN := Aside0.mk (HRN2.out rfl)
  dsimp only at HRN
  clear HRN2 HRN3
  go_upto_region 10 with (fail)
  clear q3 q5 q6 wm wd b5 p1 q1
  obtain ⟨AT, nt, ct, hT1, hT2⟩ := part_any A c xs s1 s2 HCX.out HM.out HSJ.out.2.2.1 HSJ.out.2.2.2.1
  obtain ⟨AZ, nz, cz, hZ1, hZ2⟩ := part_any A c xs z1 z2 HCX.out HM.out HSK.out.2.2.1 HSK.out.2.2.2.1
  rw [HNX.out] at hT1 hT2 hZ1 hZ2 HRN
  have HT1 := Aside0.mk hT1
  have HT2 := Aside0.mk hT2
  have HZ1 := Aside0.mk hZ1
  have HZ2 := Aside0.mk hZ2
  clear hT1 hT2 hZ1 hZ2
  obtain ⟨ft, hft⟩ : ∃ ft, decide (fits nx s1 s2) = ft := ⟨_, rfl⟩
  obtain ⟨fz, hfz⟩ : ∃ fz, decide (fits nx z1 z2) = fz := ⟨_, rfl⟩
  rw [hft] at HT1
  rw [hfz] at HZ1
  have HFT := Aside0.mk hft
  have HFZ := Aside0.mk hfz
  clear hft hfz
  go_upto_region 11 with (go_at_call 21; refine (HT1.out _).mono ?_; rintro e wx ⟨rfl, hwx⟩; replace hwx := hwx.symm; subst hwx)
  have K8b := Aside0.mk (show w6.cell? ⟨g8, 3, none⟩ = some (.int .u32 (k : Int)) ∧ w6.cell? ⟨(a4.add (k * 5)).block, (a4.add (k * 5)).off + 1, none⟩ = some (.int .u64 z1) ∧ w6.cell? ⟨(a4.add (k * 5)).block, (a4.add (k * 5)).off + 2, none⟩ = some (.int .u64 z2) from ⟨c83, hy1, hy2⟩)
  clear c81 c82 c83 c84 hy0 hy1 hy2 hy3 hy4
  refine RS.wp_drawn (by kernel_rfl) [(70, .slice A nx c), (71, .slice (some a4) n c4), (72, .pointer (some ⟨g8, 3, none⟩)), (73, .int .u32 (k : Int)), (74, .pointer (some (a4.add (k * 5)))), (75, .pointer (some ⟨(a4.add (k * 5)).block, (a4.add (k * 5)).off + 1, none⟩)), (76, .int .u64 z1), (77, .slice (some a4) n c4), (78, .pointer (some ⟨g8, 3, none⟩)), (79, .int .u32 (k : Int)), (80, .pointer (some (a4.add (k * 5)))), (81, .pointer (some ⟨(a4.add (k * 5)).block, (a4.add (k * 5)).off + 2, none⟩)), (82, .int .u64 z2), (83, .tuple #[.slice AZ nz cz, .bool fz]), (69, .tuple #[.slice AZ nz cz, .bool fz]), (84, .slice AZ nz cz), (85, .bool fz), (11, .slice AZ nz cz), (12, .bool fz)] (fun wq => Below w6.heap.size w6 wq) (by kernel_rfl) (by kernel_rfl) (bY_ (Below.refl _ _)) ?hs ?hq
  case hs =>
    exact ⟨RS.StepOK.pure 70 (by kernel_rfl) rfl (fun w => by kernel_rfl),
      RS.StepOK.pure 71 (by kernel_rfl) rfl (fun w => by kernel_rfl),
      RS.StepOK.pure 72 (by kernel_rfl) rfl (fun w => by kernel_rfl),
      RS.StepOK.load 73 (.int .u32 (k : Int)) (by kernel_rfl) (by kernel_rfl) rfl (fun wq h => run_load rfl (by kernel_rfl) (load_cell (k := .u32) Try.underlying43 (pw_cell_below h K8b.out.1))),
      RS.StepOK.load 74 (.pointer (some (a4.add (k * 5)))) (by kernel_rfl) (by kernel_rfl) rfl (fun wq h => run_indexAddr rfl (by kernel_rfl) (by kernel_rfl) (index_s45 a4 n c4 k HK.out wq)),
      RS.StepOK.load 75 (.pointer (some ⟨(a4.add (k * 5)).block, (a4.add (k * 5)).off + 1, none⟩)) (by kernel_rfl) (by kernel_rfl) rfl (fun wq h => run_fld45 (i := 1) rfl (.inl rfl) (by kernel_rfl)),
      RS.StepOK.load 76 (.int .u64 z1) (by kernel_rfl) (by kernel_rfl) rfl (fun wq h => run_load rfl (by kernel_rfl) (load_cell (k := .u64) Try.underlying26 (pw_cell_below h K8b.out.2.1))),
      RS.StepOK.pure 77 (by kernel_rfl) rfl (fun w => by kernel_rfl),
      RS.StepOK.pure 78 (by kernel_rfl) rfl (fun w => by kernel_rfl),
      RS.StepOK.load 79 (.int .u32 (k : Int)) (by kernel_rfl) (by kernel_rfl) rfl (fun wq h => run_load rfl (by kernel_rfl) (load_cell (k := .u32) Try.underlying43 (pw_cell_below h K8b.out.1))),
      RS.StepOK.load 80 (.pointer (some (a4.add (k * 5)))) (by kernel_rfl) (by kernel_rfl) rfl (fun wq h => run_indexAddr rfl (by kernel_rfl) (by kernel_rfl) (index_s45 a4 n c4 k HK.out wq)),
      RS.StepOK.load 81 (.pointer (some ⟨(a4.add (k * 5)).block, (a4.add (k * 5)).off + 2, none⟩)) (by kernel_rfl) (by kernel_rfl) rfl (fun wq h => run_fld45 (i := 2) rfl (.inr rfl) (by kernel_rfl)),
      RS.StepOK.load 82 (.int .u64 z2) (by kernel_rfl) (by kernel_rfl) rfl (fun wq h => run_load rfl (by kernel_rfl) (load_cell (k := .u64) Try.underlying26 (pw_cell_below h K8b.out.2.2))),
      RS.StepOK.call 83 21 #[.slice A nx c, .int .u64 z1, .int .u64 z2] (.tuple #[.slice AZ nz cz, .bool fz]) (by kernel_rfl) (by kernel_rfl) rfl (fun w => by kernel_rfl) (fun wq h => (HZ1.out wq).mono (by rintro e w' ⟨rfl, rfl⟩; exact ⟨rfl, h⟩)),
      RS.StepOK.pure 69 (by kernel_rfl) rfl (fun w => by kernel_rfl),
      RS.StepOK.pure 84 (by kernel_rfl) rfl (fun w => by kernel_rfl),
      RS.StepOK.pure 85 (by kernel_rfl) rfl (fun w => by kernel_rfl),
      RS.StepOK.pure 11 (by kernel_rfl) rfl (fun w => by kernel_rfl),
      RS.StepOK.pure 12 (by kernel_rfl) rfl (fun w => by kernel_rfl),
      trivial⟩
  case hq =>
  rintro w7 hb7
  (try simp only [List.cons_append, List.nil_append, RS.sets, List.setIfInBounds_toArray, List.set_cons_zero, List.set_cons_succ])
  have HB7 := Aside0.mk (below_step HB6.out hb7)
  have M4 := Aside0.mk (heap_below hb7 K4.out)
  have M5 := Aside0.mk (heap_below hb7 K5.out)
  clear hb7 K4 K5 K8 K8b HB6
  by_cases hfit : fits nx s1 s2 ∧ fits nx z1 z2
  rotate_left
  · have hq : (!ft || !fz) = true := by rw [← HFT.out, ← HFZ.out]; by_cases h1 : fits nx s1 s2 <;> by_cases h2 : fits nx z1 z2 <;> simp_all
    have HR := Aside0.mk (show readN xs C = ([], 33) from HRN.out.trans (if_neg hfit))
    clear hfit
    obtain ⟨cb1, fb1, cb2, fb2⟩ := two_boxes M4.out M5.out n45.out (.slice none 0 0)
    cases ft <;> cases fz <;> first | (exact absurd hq (by decide)) | skip
    all_goals
      clear hq
      go_wp2
      refine read_end (g4 := g4) (g5 := g5) (v := .slice none 0 0) (e := 33) ?_ ?_ ?_ ?_ ?_
      · rfl
      · rfl
      · exact blk_other (blk_store M4.out _) n45.out _
      · exact blk_store (blk_other M5.out (by exact Ne.symm n45.out) _) _
      · exact NUL.out _ 33 ((HB7.out.setCell (by exact hle4.out) _).setCell (by exact hle5.out) _) HR.out
  obtain rfl : true = ft := by rw [← HFT.out]; exact (decide_eq_true hfit.1).symm
  obtain rfl : true = fz := by rw [← HFZ.out]; exact (decide_eq_true hfit.2).symm
  have HRR := Aside0.mk (HRN.out.trans (if_pos hfit))
  have HTT := Aside0.mk (HT2.out hfit.1)
  have HZZ := Aside0.mk (HZ2.out hfit.2)
  clear HRN HT1 HZ1 HT2 HZ2 HFT HFZ hfit
  go_wp2
  apply wp_label
  go_wp2_with (go_at_call 22; refine (symbols_calls AT AZ nt ct nz cz _).mono ?_; rintro e w8 ⟨rfl, hbt, hbz, hs8, hb8⟩; have HBT := Aside0.mk hbt; have HBZ := Aside0.mk hbz; have HS8 := Aside0.mk hs8; have HB8 := Aside0.mk (below_step HB7.out hb8); have N4 := Aside0.mk (heap_below hb8 M4.out); have N5 := Aside0.mk (heap_below hb8 M5.out); have HB78 := Aside0.mk hb8; clear hbt hbz hs8 hb8)
  obtain ⟨T, hT⟩ : ∃ T, cutN xs ⟨0, s1, s2, 0, 0⟩ = T := ⟨_, rfl⟩
  obtain ⟨Z, hZ⟩ : ∃ Z, cutN xs ⟨3, z1, z2, z3, z4⟩ = Z := ⟨_, rfl⟩
  have HTE := Aside0.mk (show nt = T.length ∧ nt ≤ ct ∧ Kd.C (Kd.int .u8) w AT nt T ∧ BB T ∧ T.length ≤ 1000000 by
    rw [← hT]; exact ⟨HTT.out.1, HTT.out.2.1, HTT.out.2.2 w (HNX.out ▸ HX.out), (HBX.out.drop _).take _, by unfold cutN; rw [List.length_take, List.length_drop]; have := HM.out; omega⟩)
  have HZE := Aside0.mk (show nz = Z.length ∧ nz ≤ cz ∧ Kd.C (Kd.int .u8) w AZ nz Z ∧ BB Z ∧ Z.length ≤ 1000000 by
    rw [← hZ]; exact ⟨HZZ.out.1, HZZ.out.2.1, HZZ.out.2.2 w (HNX.out ▸ HX.out), (HBX.out.drop _).take _, by unfold cutN; rw [List.length_take, List.length_drop]; have := HM.out; omega⟩)
  have HRR2 := Aside0.mk (show readN xs C = gathN (symL T Z) by rw [← hT, ← hZ]; exact HRR.out)
  have HTL := Aside0.mk (show T.length ≤ 1000000 from HTE.out.2.2.2.2)
  clear hT hZ HTT HZZ HRR
  have hlt4 : g4 < w7.heap.size := blk_lt M4.out
  have hlt5 : g5 < w7.heap.size := blk_lt M5.out
  have LT := Aside0.mk (And.intro hlt4 hlt5)
  have HIT := Aside0.mk (show ∀ W, Keeps (fun _ => False) w8 W → Iter Try.prog 33 #[.pointer (some ⟨w7.heap.size, 0, none⟩), .pointer (some ⟨w7.heap.size + 1, 0, none⟩)] encX (fun k => k = w7.heap.size) (fun k => k = g4 ∨ k = g5) (symL T Z) W from fun W hk => by
    have hbW : Below w.heap.size w W := HB8.out.trans (hk.below HB8.out.size (fun k _ h => h.elim))
    have hw7 : w.heap.size ≤ w7.heap.size := HB7.out.size
    have k1 := hk.at_ HBT.out (fun h => h.elim)
    have k2 := hk.at_ HBZ.out (fun h => h.elim)
    have hl4 := hle4.out
    have hl5 := hle5.out
    obtain ⟨t1, t2, t3, t4, t5⟩ := HTE.out
    obtain ⟨u1, u2, u3, u4, u5⟩ := HZE.out
    have hWs := hbW.size
    rw [u1] at k2
    rw [t1] at k1
    have zz : 0 < Z.length → ∃ az, AZ = some az ∧ Row8 W az Z ∧ az.block < W.heap.size ∧ az.block ≠ w7.heap.size ∧ ¬ (az.block = g4 ∨ az.block = g5) := fun hz => by
      obtain ⟨az, e, hr, hl⟩ := row_low u3 u1 hz
      exact ⟨az, e, fun j hj => pw_cell_below hbW (hr j hj), by omega, by omega, by omega⟩
    by_cases h0 : 0 < T.length
    · obtain ⟨aT, e, hr, hl⟩ := row_low t3 t1 h0
      rw [e] at k1
      exact syms_iter w7.heap.size (w7.heap.size + 1) aT AZ ct cz T Z W _ k1 k2 (by omega) ⟨fun j hj => pw_cell_below hbW (hr j hj), by omega, by omega, by omega⟩ zz t4 u4 (by omega) (by omega) t5 u5 (fun k h => by omega)
    · obtain rfl : T = [] := List.eq_nil_of_length_eq_zero (by omega)
      exact syms_iter0 w7.heap.size AT ct Z W _ _ k1)
  clear HBT HBZ HTE HZE M4 M5
  have HE := Aside0.mk (show RdI w g4 g5 (w8.heap.size + 2) [] w8 from ⟨HB8.out, N5.out, fun x h => (nomatch h), _, N4.out, own_nil _ _ _ _⟩)
  clear N4 N5
  have HST := Aside0.mk (show w.heap.size ≤ w7.heap.size ∧ g4 < w7.heap.size ∧ g5 < w7.heap.size ∧ w8.heap.size = w7.heap.size + 2 from ⟨HB7.out.size, LT.out.1, LT.out.2, HS8.out⟩)
  refine wp_rangeA_plain (α := S38 × Bool) (gf := 33) rfl (enters_of Try.func33 (by kernel_rfl) rfl) (encs := encX) (Q := fun k => k = w7.heap.size) (R := fun k => k = g4 ∨ k = g5) (L := symL T Z)
    HIT.out (fun k h => by subst h; have := HS8.out; omega) (fun k h => by have := HS8.out; have := LT.out; omega) (fun _ => rfl)
    (RdI w g4 g5 (w8.heap.size + 2)) (RdX w g4 g5)
    (RdI_stable HST.out) (RdX_stable HST.out) HE.out
    (fun pre x a' W => ∃ g13, w8.heap.size + 2 ≤ g13 ∧ W.heap[g13]? = some (.cells (encS x.1) 38 (0, 0)) ∧ RdI w g4 g5 (w8.heap.size + 2) pre W ∧ a' = { tmps := #[.slice A nx c, .agg #[.int .u64 h0, .int .u64 h1, .int .u64 h2, .slice A3 n3 c3, .slice (some a4) n c4], undef, .pointer (some ⟨g3, 0, none⟩), .pointer (some ⟨g4, 0, none⟩), .pointer (some ⟨g5, 0, none⟩), .slice (some a4) n c4, .int .i64 (j : Int), .pointer (some ⟨g8, 0, none⟩), .slice AT nt ct, .bool true, .slice AZ nz cz, .bool true, .pointer (some ⟨g13, 0, none⟩), .bool x.2, .pointer (some ⟨g3, 4, none⟩), .slice (some a4) n c4, .slice (some a4) n c4, .int .i64 (n : Int), .bool false, .slice (some a4) n c4, .int .i64 (j : Int), .int .i64 (j : Int), .bool false, .slice (some a4) n c4, .int .i64 (j : Int), .pointer (some (a4.add (j * 5))), .agg #[.int .u32 s0, .int .u64 s1, .int .u64 s2, .int .u32 (k : Int), .int .u64 24], .pointer (some ⟨g8, 4, none⟩), .int .u64 24, .bool false, .bool false, .pointer (some ⟨g8, 2, none⟩), .int .u64 s2, .int .u64 0, .bool false, .bool false, .bool false, .pointer (some ⟨g8, 2, none⟩), .int .u64 s2, .int .u64 d, .bool false, .bool false, .bool false, .pointer (some ⟨g8, 3, none⟩), .int .u32 (k : Int), .int .i64 (k : Int), .slice (some a4) n c4, .int .i64 (n : Int), .bool false, .bool false, .bool false, .slice (some a4) n c4, .pointer (some ⟨g8, 3, none⟩), .int .u32 (k : Int), .pointer (some (a4.add (k * 5))), .pointer (some (a4.add (k * 5))), .int .u32 3, .bool false, .bool false, .tuple #[.slice AT nt ct, .bool true], .slice A nx c, .pointer (some ⟨g8, 1, none⟩), .int .u64 s1, .pointer (some ⟨g8, 2, none⟩), .int .u64 s2, .tuple #[.slice AT nt ct, .bool true], .slice AT nt ct, .bool true, .tuple #[.slice AZ nz cz, .bool true], .slice A nx c, .slice (some a4) n c4, .pointer (some ⟨g8, 3, none⟩), .int .u32 (k : Int), .pointer (some (a4.add (k * 5))), .pointer (some ⟨(a4.add (k * 5)).block, (a4.add (k * 5)).off + 1, none⟩), .int .u64 z1, .slice (some a4) n c4, .pointer (some ⟨g8, 3, none⟩), .int .u32 (k : Int), .pointer (some (a4.add (k * 5))), .pointer (some ⟨(a4.add (k * 5)).block, (a4.add (k * 5)).off + 2, none⟩), .int .u64 z2, .tuple #[.slice AZ nz cz, .bool true], .slice AZ nz cz, .bool true, .bool true, .bool false, .bool false, .bool true, .bool false, .bool false, .slice AT nt ct, .slice AZ nz cz, .func (.func 33) #[] #[.pointer (some ⟨w7.heap.size, 0, none⟩), .pointer (some ⟨w7.heap.size + 1, 0, none⟩)], .agg (encS x.1), .bool x.2, undef, undef, undef, undef, undef, undef, undef, undef], defers := [] })
    ?hA ?assign ?body ?done ?stop
  case hA =>
    rintro pre x a' W W' ⟨g13, h1, h2, h3, h4⟩ hk
    exact ⟨g13, h1, hk.at_ h2 (by omega), RdI_stable HST.out _ _ _ h3 (hk.mono (fun k _ h => by omega)), h4⟩
  case assign =>
    intro lp pre x suf W K hL hsz hI hK
    simp only [encX]
    have HI := Aside0.mk hI
    have HK := Aside0.mk hK
    have HSZ := Aside0.mk hsz
    clear hI hK hL hsz
    gi_wp2_with (first | (refine in_box 13 rfl rfl (by intro c h; cases h) (by intro c h; cases h) (cs := #[.string ⟨#[]⟩, .int .u64 0, .int .u64 0, .bool false]) (t := 38) ?hr ?_; (case hr => first | (go_simp; done) | (go_simp; rfl)); intro g13 hg wb hbox hb hs; have BK := Aside0.mk hbox; have HG := Aside0.mk hg; have HBb := Aside0.mk hb; have HSb := Aside0.mk hs; clear hg hbox hb hs) | (refine in_skip rfl (by intro c h; cases h) (by intro c h; cases h) (w1 := wb.setRow g13 (encS x.1)) ?hr ?_; (case hr => exact run_store_row (ty := 38) (x := .tmp 13) (y := .tmp 95) (cells := encS x.1) (old := #[.string ⟨#[]⟩, .int .u64 0, .int .u64 0, .bool false]) rfl (by kernel_rfl) (by kernel_rfl) BK.out (by kernel_rfl) rfl (by simp [Value.oneCell', encS]))))
    have hkk : Keeps (fun _ => False) W (wb.setRow g13 (encS x.1)) := Keeps.of_below (B := W.heap.size) (below_setRow HBb.out (by rw [HG.out]; exact Nat.le_refl _) _) (fun k hk _ => hk)
    refine HK.out _ _ ⟨g13, by have := HSZ.out; have := HG.out; omega, setRow_heap wb g13 _ (encS x.1) 38 (0, 0) BK.out, RdI_stable HST.out _ _ _ HI.out (hkk.mono (fun k _ h => h.elim)), rfl⟩ hkk
  case body =>
    rintro lp pre x suf a' W hL hsz ⟨g13, hg13, hb13, hI, rfl⟩
    obtain ⟨hB, h5, hall, v, h4, hown⟩ := hI
    obtain ⟨Av, cv, rfl⟩ := own_slice hown
    have hst := HST.out
    have nn : g4 ≠ g13 ∧ g5 ≠ g13 := by omega
    have NN := Aside0.mk nn
    have HB := Aside0.mk hB
    have HALL := Aside0.mk hall
    have HL := Aside0.mk hL
    have HG13 := Aside0.mk hg13
    have HSZ := Aside0.mk hsz
    have H4 := Aside0.mk h4
    have H5 := Aside0.mk h5
    obtain ⟨⟨x0, x1, x2, x3⟩, ok⟩ := x
    have hx0 : W.cell? ⟨g13, 0, none⟩ = some (.string x0) := (bC_ hb13 0).trans rfl
    have hx1 : W.cell? ⟨g13, 1, none⟩ = some (.int .u64 x1) := (bC_ hb13 1).trans rfl
    have hx2 : W.cell? ⟨g13, 2, none⟩ = some (.int .u64 x2) := (bC_ hb13 2).trans rfl
    have hx3 : W.cell? ⟨g13, 3, none⟩ = some (.bool x3) := (bC_ hb13 3).trans rfl
    cases ok
    · obtain ⟨cb1, fb1, cb2, fb2⟩ := two_boxes h4 h5 n45.out (.slice none 0 0)
      clear hB hall hL hg13 hb13 nn hst h4 h5 hown
      gi_wp2
      refine ⟨((Keeps.refl _ W).setCell _ _ (.inl (.inl rfl))).setCell _ _ (.inl (.inr rfl)), rfl, (HB.out.setCell (by exact hle4.out) _).setCell (by exact hle5.out) _, ?_, ?_, ⟨⟨x0, x1, x2, x3⟩, false⟩, by simp, rfl⟩
      · exact blk_other (blk_store H4.out _) n45.out _
      · exact blk_store (blk_other H5.out (by exact Ne.symm n45.out) _) _
    · obtain ⟨cb1, fb1⟩ := cell_of_block h4
      obtain ⟨i0, hi, hzz⟩ := Option.map_eq_some_iff.1 info38
      simp only [Prod.mk.injEq] at hzz
      obtain ⟨hz0, hz1, hz2⟩ := hzz
      have HOWN := Aside0.mk hown
      have hlen : pre.length ≤ 1000000 := by
        have h1 : (symL T Z).length = T.length / 24 - 1 := symL_len T Z
        rw [hL, List.length_append] at h1
        have h2 := HTL.out
        omega
      have HLEN := Aside0.mk hlen
      clear hB hall hL hg13 hb13 nn hst h4 h5 hown hlen
      gi_wp2_with (first | (refine in_row 101 rfl rfl (by intro c h; cases h) (by intro c h; cases h) (cs := #[.string x0, .int .u64 x1, .int .u64 x2, .bool x3]) (t := 38) (m := 1) ?hr ?_; (case hr => first | (go_simp; done) | (go_simp; rfl)); intro gs hg wb hbox hb hs; have BK := Aside0.mk hbox; have HG := Aside0.mk hg; have HBb := Aside0.mk hb; have HSb := Aside0.mk hs; have HOb := Aside0.mk (own_move HOWN.out (fun k hk => hb.block k (own_lt HOWN.out k hk))); have H4b := Aside0.mk (heap_below hb H4.out); clear hg hbox hb hs) | (gi_at_builtin; go_loud (refine wpListIn_append_own _ rfl _ _ 33 rfl (w8.heap.size + 2) 38 i0 (.agg #[.string ⟨#[]⟩, .int .u64 0, .int .u64 0, .bool false]) 4 40 Try.underlying33 hi hz0 hz1 hz2 rfl (by decide) (.slice Av pre.length cv) pre.length (pre.flatMap fun y => (encS y.1).toList) rfl HOb.out ⟨gs, 0, none⟩ 1 1 [.string x0, .int .u64 x1, .int .u64 x2, .bool x3] rfl rfl ?c2 ?c3 ?c4 ?c5 ?c6 ?_)))
      case c2 =>
        intro j u hu
        rw [show (⟨gs, 0, none⟩ : Addr).add j = ⟨gs, j, none⟩ by simp [Addr.add]; omega]
        rw [bC_ BK.out j]
        rw [← hu]
        simp
      case c3 =>
        intro u hu
        simp at hu
        rcases hu with rfl | rfl | rfl | rfl <;> rfl
      case c4 => have := HLEN.out; unfold maxLen; omega
      case c5 => have := HLEN.out; omega
      case c6 => have := HSZ.out; have := HSb.out; omega
      intro v' W' hown' hgrow _
      obtain ⟨A', c', rfl⟩ := own_slice hown'
      have hne : ∀ k, (Value.slice Av pre.length cv).ownBlock = some k → k ≠ g4 := fun k hk => by have := own_base HOWN.out k hk; have := HST.out; omega
      have h4' := (hgrow.block g4 (blk_lt H4b.out) (fun e => hne _ e.symm rfl)).trans H4b.out
      obtain ⟨cb3, fb3⟩ := cell_of_block h4'
      have H4' := Aside0.mk h4'
      have HO' := Aside0.mk hown'
      have HG' := Aside0.mk hgrow
      clear h4' hown' hgrow cb1 fb1 hne hi hz0 hz1 hz2 hx0 hx1 hx2 hx3
      gi_wp2
      have hkp : Keeps (fun k => (k = g4 ∨ k = g5) ∨ w8.heap.size + 2 ≤ k) W (W'.setCell ⟨g4, 0, none⟩ (.slice A' (pre.length + 1) c')) :=
        ((Keeps.of_below HBb.out (fun k hk _ => hk)).trans (Keeps.of_grown HG'.out (fun k e => .inr (own_base HOWN.out k e)))).setCell _ _ (.inl (.inl rfl))
      have hst := HST.out
      refine ⟨hkp, HB.out.trans (hkp.below HB.out.size (fun k hk h => by have := hle4.out; have := hle5.out; omega)), ?_, ?_, _, blk_store H4'.out _, ?_⟩
      · exact blk_other ((HG'.out.block g5 (blk_lt (heap_below HBb.out H5.out)) (fun e => by have := own_base HOWN.out g5 e.symm; omega)).trans (heap_below HBb.out H5.out)) (by exact Ne.symm n45.out) _
      · intro y hy
        rcases List.mem_append.1 hy with hy | hy
        · exact HALL.out y hy
        · simp at hy; subst hy; rfl
      · rw [List.length_append, rows_snoc]
        exact own_move HO'.out (fun k hk => Below.heap_setCell W' _ _ k (by have := own_base HO'.out k hk; show k ≠ g4; omega))
  case done =>
    rintro W ⟨hB, h5, hall, v, h4, hown⟩ hd
    obtain ⟨Av, cv, rfl⟩ := own_slice hown
    have HB := Aside0.mk hB
    have H4 := Aside0.mk h4
    have H5 := Aside0.mk h5
    have HALL := Aside0.mk hall
    have HOWN := Aside0.mk hown
    have HD := Aside0.mk hd
    obtain ⟨nl, hnl⟩ : ∃ nl, (symL T Z).length = nl := ⟨_, rfl⟩
    rw [hnl] at H4 HOWN
    have HNL := Aside0.mk hnl
    clear hB h4 h5 hall hown hd hnl
    go_wp2_with fail
    refine RS.wp_events (by kernel_rfl) [(103, .slice Av nl cv), (104, .int .i64 0)] (fun _ W' => W'.heap[g4]? = some (.cells #[.slice Av nl cv] 33 (0, 0)) ∧ W'.heap[g5]? = some (.cells #[.int .i64 0] 34 (0, 0)) ∧ Keeps (fun k => k = g4 ∨ k = g5) W W') (by kernel_rfl) (by kernel_rfl) (fun f hk => ⟨H4.out, H5.out, (Keeps.refl _ W).drew⟩) ⟨RS.StepE.load 103 (.slice Av nl cv) (by kernel_rfl) (by kernel_rfl) rfl (fun f w h => h) (fun f wq p1 p2 h => run_load rfl (by kernel_rfl) (load33 (cell_of_block h.1).1)),
      RS.StepE.load 104 (.int .i64 0) (by kernel_rfl) (by kernel_rfl) rfl (fun f w h => h) (fun f wq p1 p2 h => run_load rfl (by kernel_rfl) (load_cell (k := .i64) Try.underlying34 (cell_of_block h.2.1).1)),
      RS.StepE.event undef (by intro d hd; cases hd) (by kernel_rfl) (fun f wq h0 p1 p2 h => ⟨_, .inr ⟨store33 rfl (by kernel_rfl) (by kernel_rfl) h.1, rfl⟩, blk_store h.1 _, blk_other h.2.1 (by exact Ne.symm n45.out) _, h.2.2.setCell _ _ (.inl rfl)⟩),
      RS.StepE.event undef (by intro d hd; cases hd) (by kernel_rfl) (fun f wq h0 p1 p2 h => ⟨_, .inr ⟨store34 rfl (by kernel_rfl) (by kernel_rfl) h.2.1, rfl⟩, blk_other h.1 (by exact n45.out) _, blk_store h.2.1 _, h.2.2.setCell _ _ (.inr rfl)⟩), trivial⟩ ?_
    rintro f wr - ⟨hr4, hr5, hrk⟩
    (try simp only [List.cons_append, List.nil_append, RS.sets, List.setIfInBounds_toArray, List.set_cons_zero, List.set_cons_succ])
    have R4 := Aside0.mk hr4
    have R5 := Aside0.mk hr5
    have RK := Aside0.mk hrk
    clear hr4 hr5 hrk
    go_wp2
    refine read_leave (g4 := g4) (g5 := g5) (D := w8.heap.size) (v := .slice Av nl cv) (e := 0) ?_ ?_ R4.out R5.out (by have := HST.out; omega) (by have := HST.out; omega) (RK.out.at_ HD.out (by have := HST.out; omega)) ?_
    · rfl
    · rfl
    · have hkp : Keeps (fun k => k = g4 ∨ k = g5 ∨ k = w8.heap.size) W (wr.putObj w8.heap.size (.deferred none)) := (RK.out.mono (fun k _ h => by omega)).putObj _ _ (.inr (.inr rfl))
      have hbl : Below w.heap.size w (wr.putObj w8.heap.size (.deferred none)) := HB.out.trans (hkp.below HB.out.size (fun k hk h => by have := hle4.out; have := hle5.out; have := HST.out; omega))
      have hg := gath_ok HALL.out
      refine ⟨_, by rw [HRR2.out, hg], ?_, hbl⟩
      rw [HRR2.out, hg]
      refine R38_of_own ?_
      rw [HNL.out]
      exact own_less (own_move HOWN.out (fun k hk => hkp.block k (own_lt HOWN.out k hk) (by have := own_base HOWN.out k hk; have := HST.out; omega))) (by have := HST.out; omega)
  case stop =>
    rintro c pre suf W hL ⟨rfl, hB, h4, h5, x, hx, hxf⟩ hd
    have HB := Aside0.mk hB
    have H4 := Aside0.mk h4
    have H5 := Aside0.mk h5
    have HD := Aside0.mk hd
    have HG := Aside0.mk (gath_no hL hx hxf)
    clear hB h4 h5 hd hL hx hxf
    go_wp2_with fail
    refine RS.wp_events (by kernel_rfl) [(103, .slice none 0 0), (104, .int .i64 33)] (fun _ W' => W'.heap[g4]? = some (.cells #[.slice none 0 0] 33 (0, 0)) ∧ W'.heap[g5]? = some (.cells #[.int .i64 33] 34 (0, 0)) ∧ Keeps (fun k => k = g4 ∨ k = g5) W W') (by kernel_rfl) (by kernel_rfl) (fun f hk => ⟨H4.out, H5.out, (Keeps.refl _ W).drew⟩) ⟨RS.StepE.load 103 (.slice none 0 0) (by kernel_rfl) (by kernel_rfl) rfl (fun f w h => h) (fun f wq p1 p2 h => run_load rfl (by kernel_rfl) (load33 (cell_of_block h.1).1)),
      RS.StepE.load 104 (.int .i64 33) (by kernel_rfl) (by kernel_rfl) rfl (fun f w h => h) (fun f wq p1 p2 h => run_load rfl (by kernel_rfl) (load_cell (k := .i64) Try.underlying34 (cell_of_block h.2.1).1)),
      RS.StepE.event undef (by intro d hd; cases hd) (by kernel_rfl) (fun f wq h0 p1 p2 h => ⟨_, .inr ⟨store33 rfl (by kernel_rfl) (by kernel_rfl) h.1, rfl⟩, blk_store h.1 _, blk_other h.2.1 (by exact Ne.symm n45.out) _, h.2.2.setCell _ _ (.inl rfl)⟩),
      RS.StepE.event undef (by intro d hd; cases hd) (by kernel_rfl) (fun f wq h0 p1 p2 h => ⟨_, .inr ⟨store34 rfl (by kernel_rfl) (by kernel_rfl) h.2.1, rfl⟩, blk_other h.1 (by exact n45.out) _, blk_store h.2.1 _, h.2.2.setCell _ _ (.inr rfl)⟩), trivial⟩ ?_
    rintro f wr - ⟨hr4, hr5, hrk⟩
    (try simp only [List.cons_append, List.nil_append, RS.sets, List.setIfInBounds_toArray, List.set_cons_zero, List.set_cons_succ])
    have R4 := Aside0.mk hr4
    have R5 := Aside0.mk hr5
    have RK := Aside0.mk hrk
    clear hr4 hr5 hrk
    go_wp2
    refine read_leave (g4 := g4) (g5 := g5) (D := w8.heap.size) (v := .slice none 0 0) (e := 33) ?_ ?_ R4.out R5.out (by have := HST.out; omega) (by have := HST.out; omega) (RK.out.at_ HD.out (by have := HST.out; omega)) ?_
    · rfl
    · rfl
    · have hkp : Keeps (fun k => k = g4 ∨ k = g5 ∨ k = w8.heap.size) W (wr.putObj w8.heap.size (.deferred none)) := (RK.out.mono (fun k _ h => by omega)).putObj _ _ (.inr (.inr rfl))
      have hbl : Below w.heap.size w (wr.putObj w8.heap.size (.deferred none)) := HB.out.trans (hkp.below HB.out.size (fun k hk h => by have := hle4.out; have := hle5.out; have := HST.out; omega))
      exact NUL.out _ 33 hbl (HRR2.out.trans HG.out)
end Go.Proofs.Ytgdhciilobnelaa.B
namespace Go.Proofs.Ytgdhciilobnelaa.B
open Go.RowKit Go.Lib Go.Proofs.YtgdhciilobnelaaW.PrintWords Go.Proofs.YtgdhciilobnelaaW.PrintLast Go.Proofs.YtgdhciilobnelaaW.PrintMore Go.RF
set_option linter.unusedVariables false
set_option linter.unusedSimpArgs false
attribute [local go_sem] max2_int min2_int max_two min_two
def strP (l : List S41) : List Int := 0 :: l.flatMap fun x => strB x.f0 ++ [0]
def entB (o : Int) (x : S41) : List Int := b4 o ++ ([x.f1, 0] ++ (b2 x.f2 ++ (b8 x.f3 ++ b8 x.f4)))
def tabP (l : List S41) (i : Nat) : List Int := List.replicate 24 0 ++ (List.range i).flatMap fun j => entB ((strP (l.take j)).length : Int) (l.getD j z41)
theorem strP_snoc (l : List S41) {i : Nat} (h : i < l.length) : strP (l.take (i + 1)) = strP (l.take i) ++ strB (l.getD i z41).f0 ++ [0] := by
  unfold strP
  rw [List.take_succ_eq_append_getElem h, List.flatMap_append, List.getD_eq_getElem?_getD, List.getElem?_eq_getElem h]
  simp
theorem entB_len (o : Int) (x : S41) : (entB o x).length = 24 := rfl
theorem tabP_len (l : List S41) : ∀ i, (tabP l i).length = 24 * (i + 1)
  | 0 => rfl
  | i + 1 => by
    have := tabP_len l i
    unfold tabP at this ⊢
    rw [List.range_succ, List.flatMap_append, ← List.append_assoc, List.length_append, this]
    simp [entB_len]
    omega
theorem tabP_succ (l : List S41) (i : Nat) : tabP l (i + 1) = tabP l i ++ entB ((strP (l.take i)).length : Int) (l.getD i z41) := by
  unfold tabP
  rw [List.range_succ, List.flatMap_append, ← List.append_assoc]
  simp
theorem splice_mid (P Q R B : List Int) (j k : Nat) (hk : k = P.length + j) (hj : j + B.length ≤ Q.length) : splice (P ++ (Q ++ R)) k B = P ++ (splice Q j B ++ R) := by
  subst hk
  unfold splice
  rw [List.take_append, List.take_of_length_le (by omega), show P.length + j - P.length = j by omega, List.take_append_of_le_length (by omega),
    List.drop_append, List.drop_of_length_le (by omega), show P.length + j + B.length - P.length = j + B.length by omega, List.drop_append_of_le_length (by omega)]
  simp [List.append_assoc]
theorem set_mid (P Q R : List Int) (j k : Nat) (y : Int) (hk : k = P.length + j) (hj : j < Q.length) : (P ++ (Q ++ R)).set k y = P ++ (Q.set j y ++ R) := by
  subst hk
  rw [List.set_append_right _ _ (by omega), show P.length + j - P.length = j by omega, List.set_append_left _ _ hj]
theorem ent_made (o k s a z : Int) : splice (splice (splice ((splice (List.replicate 24 0) 0 (bytesN o 4)).set 4 k) 6 (bytesN s 2)) 8 (bytesN a 8)) 16 (bytesN z 8) = b4 o ++ ([k, 0] ++ (b2 s ++ (b8 a ++ b8 z))) := rfl
def MdI (w : World) (B gt capT g5 : Nat) (sv : Value) (ss ts : List Int) (W : World) : Prop :=
  Below w.heap.size w W ∧ W.heap[g5]? = some (.cells #[.int .u64 0, .int .u64 0, .int .u64 0, .slice none 0 0, .slice none 0 0] 30 (0, 0)) ∧ OB B gt capT ts W ∧ W.ownsRow w.heap.size 5 1 sv ss.length (nums .u8 ss) ∧ (∀ k, sv.ownBlock = some k → k ≠ gt ∧ k ≠ g5)
theorem MdI.keep {w W W' : World} {B gt capT g5 : Nat} {sv : Value} {ss ts ts' : List Int} (h : MdI w B gt capT g5 sv ss ts W) (hB : w.heap.size ≤ B) (hO : OB B gt capT ts' W') (hk : Keeps (fun k => k = gt) W W') : MdI w B gt capT g5 sv ss ts' W' := by
  obtain ⟨h1, h2, h3, h4, h5⟩ := h
  have hgt : w.heap.size ≤ gt := Nat.le_trans hB h3.1
  have hne : gt ≠ g5 := h3.ne h2 (by decide)
  exact ⟨h1.trans (hk.below h1.size (fun k hk' h => by omega)), hk.at_ h2 (Ne.symm hne), hO, own_move h4 (fun k hk' => hk.block k (own_lt h4 k hk') (h5 k hk').1), h5⟩
theorem el41 {w : World} {A : Option Addr} {C : List S41} {n : Nat} (h : Kd.C k41 w A C.length C) (hn : C.length = n) (i : Nat) (hi : i < n) : ∃ ad, A = some ad ∧ w.cell? (ad.add (i * 5)) = some (.string (C.getD i z41).f0) ∧ w.cell? ⟨(ad.add (i * 5)).block, (ad.add (i * 5)).off + 1, none⟩ = some (.int .u8 (C.getD i z41).f1) ∧ w.cell? ⟨(ad.add (i * 5)).block, (ad.add (i * 5)).off + 2, none⟩ = some (.int .u16 (C.getD i z41).f2) ∧ w.cell? ⟨(ad.add (i * 5)).block, (ad.add (i * 5)).off + 3, none⟩ = some (.int .u64 (C.getD i z41).f3) ∧ w.cell? ⟨(ad.add (i * 5)).block, (ad.add (i * 5)).off + 4, none⟩ = some (.int .u64 (C.getD i z41).f4) := by
  subst hn
  obtain ⟨ad, e, h0, h1, h2, h3, h4⟩ := at_T41 h (i : Int) (by omega) (by omega)
  rw [Int.toNat_natCast] at h0 h1 h2 h3 h4
  unfold rd_T41 at h0 h1 h2 h3 h4
  rw [Int.toNat_natCast] at h0 h1 h2 h3 h4
  exact ⟨ad, e, h0, h1, h2, h3, h4⟩
end Go.Proofs.Ytgdhciilobnelaa.B
