/- names.Functions: the functions, sorted by their addresses, in order. What 'made' makes is read: the plain laws. Small laws of operations. wakes: what the document says of no sections, of two symbols. -/
import Derived.Test.YtgdhciilobnelaaZb14
import Derived.Test.YtgdhciilobnelaaZb8
import Derived.Test.YtgdhciilobnelaaZb9
namespace Go.Proofs.Ytgdhciilobnelaa.B
open Go.RowKit Go.Lib Go.Proofs.YtgdhciilobnelaaW.PrintWords Go.Proofs.YtgdhciilobnelaaW.PrintLast Go.Proofs.YtgdhciilobnelaaW.PrintMore Go.RF
set_option linter.unusedVariables false
set_option linter.unusedSimpArgs false
attribute [local go_sem] max2_int min2_int max_two min_two
set_option maxHeartbeats 8000000 in
set_option maxRecDepth 100000 in
theorem insertion_nil (w0 : World) : Calls Try.prog 42 #[.slice none 0 0, .int .i64 0, .int .i64 0, .func (.func 30) #[] #[]] w0 fun e w' => e = .returned (.tuple #[]) ∧ w' = w0 := by
  go_enter Try.func42, Try.ntmps42
  go_upto_region 1 with (fail)
  go_loopw [8] (fun t wr => t = .int .i64 1 ∧ wr = w0) (fun t _ => 0)
  case atStart => exact ⟨rfl, rfl⟩
  case round =>
    obtain ⟨rfl, rfl⟩ := hrel
    go_wp2
    first | go_end0 | (refine bodyPost_ret (results_none rfl _ _ _) rfl ?_)
    exact ⟨rfl, rfl⟩
set_option maxHeartbeats 8000000 in
set_option maxRecDepth 100000 in
theorem stable_nil (w0 : World) : Calls Try.prog 38 #[.slice none 0 0, .int .i64 0, .func (.func 30) #[] #[]] w0 fun e w' => e = .returned (.tuple #[]) ∧ w' = w0 := by
  go_enter Try.func38, Try.ntmps38
  go_upto_region 2 with (fail)
  go_loopw [7, 8] (fun t u wr => t = .int .i64 0 ∧ u = .int .i64 20 ∧ wr = w0) (fun t u _ => 0)
  case atStart => exact ⟨rfl, rfl, rfl⟩
  case round =>
    obtain ⟨rfl, rfl, rfl⟩ := hrel
    go_upto_region 7 with (go_at_call 42; refine (insertion_nil _).mono ?_; rintro e w' ⟨rfl, rfl⟩)
    go_loopw [6] (fun t wq => t = .int .i64 20 ∧ wq = w') (fun t _ => 0)
    case atStart => exact ⟨rfl, rfl⟩
    case round =>
      obtain ⟨rfl, rfl⟩ := hrel
      go_wp2
      first | go_end0 | (refine bodyPost_ret (results_none rfl _ _ _) rfl ?_)
      exact ⟨rfl, rfl⟩
set_option maxHeartbeats 8000000 in
set_option maxRecDepth 100000 in
theorem sort_nil (w0 : World) : Calls Try.prog 29 #[.slice none 0 0, .func (.func 30) #[] #[]] w0 fun e w' => e = .returned (.tuple #[]) ∧ w' = w0 := by
  go_enter Try.func29, Try.ntmps29
  go_wp2_with (go_at_call 38; refine (stable_nil _).mono ?_; rintro e w' ⟨rfl, rfl⟩)
  first | go_end0 | (refine bodyPost_ret (results_none rfl _ _ _) rfl ?_)
  exact ⟨rfl, rfl⟩
theorem funs_next {C : List S38} {i : Nat} (h : i < C.length) : funs (C.take (i + 1)) = if (C.getD i z38).f3 = true then funs (C.take i) ++ [C.getD i z38] else funs (C.take i) := by
  unfold funs
  rw [(take_next h).1, List.filter_append]
  by_cases hf : (C.getD i z38).f3 = true
  · rw [if_pos hf, List.filter_cons_of_pos hf, List.filter_nil]
  · rw [if_neg hf, List.filter_cons_of_neg hf, List.filter_nil, List.append_nil]
theorem funs_le (C : List S38) (i : Nat) : (funs (C.take i)).length ≤ C.length := by
  unfold funs
  exact Nat.le_trans (List.length_filter_le _ _) (by rw [List.length_take]; omega)
set_option maxHeartbeats 8000000 in
set_option maxRecDepth 100000 in
theorem functions_calls (A : Option Addr) (c n : Nat) (C : List S38) (w0 : World) (hC : Kd.C k38 w0 A C.length C) (hn : C.length = n) (hm : n ≤ 10000) :
    Calls Try.prog 16 #[.slice A n c] w0 fun e w' => ∃ v, e = .returned v ∧ ∃ ys, SS (funs C) ys ∧ Rd38 w0 w' v ys := by
  have HC := Aside0.mk hC
  have HN := Aside0.mk hn
  clear hC hn
  go_enter Try.func16, Try.ntmps16
  go_upto_region 0 with (fail)
  refine RS.wp_textE [(2, .slice none 0 0)] (fun f w => w0 = w) (by kernel_rfl) (by kernel_rfl) (fun f hf => ?_) ?_ ?_
  · rfl
  · exact ⟨RS.StepE.pure 2 (by kernel_rfl) rfl (fun w => by kernel_rfl) (fun f w h => h), trivial⟩
  rintro f wx hf rfl
  clear hf
  (try simp only [RS.sets, List.setIfInBounds_toArray, List.set_cons_zero, List.set_cons_succ])
  go_upto_region 1 with (fail)
  refine RS.wp_textE [(5, .slice A n c), (6, .int .i64 ((n : Nat) : Int)), (7, .int .i64 ((0 : Nat) : Int))] (fun f w => w0 = w) (by kernel_rfl) (by kernel_rfl) (fun f hf => ?_) ?_ ?_
  · rfl
  · exact ⟨RS.StepE.pure 5 (by kernel_rfl) rfl (fun w => by kernel_rfl) (fun f w h => h),
      RS.StepE.pure 6 (by kernel_rfl) rfl (fun w => by kernel_rfl) (fun f w h => h),
      RS.StepE.pure 7 (by kernel_rfl) rfl (fun w => by kernel_rfl) (fun f w h => h), trivial⟩
  rintro f wx hf rfl
  clear hf
  (try simp only [RS.sets, List.setIfInBounds_toArray, List.set_cons_zero, List.set_cons_succ])
  go_upto_region 2 with (fail)
  go_loopw [2, 7] (fun v t wr => ∃ i : Nat, i ≤ n ∧ t = .int .i64 (i : Int) ∧ Below w0.heap.size w0 wr ∧ wr.ownsRow w0.heap.size 38 4 v (funs (C.take i)).length (fl (funs (C.take i))) ∧ (funs (C.take i) = [] → v = .slice none 0 0)) (fun v t _ => ((n : Int) - intOf t).toNat)
  case atStart => exact ⟨0, Nat.zero_le _, rfl, Below.refl _ _, own_nil _ _ _ _, fun _ => rfl⟩
  case round =>
    obtain ⟨i, hi, rfl, hb, ho, hnil⟩ := hrel
    have HNIL := Aside0.mk hnil
    have HB := Aside0.mk hb
    have HO := Aside0.mk ho
    clear hb ho hnil
    by_cases hin : i < n
    · go_upto_region 2 with (fail)
      refine RS.wp_textE [(8, .bool true)] (fun f w => wr = w) (by kernel_rfl) (by kernel_rfl) (fun f hf => ?_) ?_ ?_
      · rfl
      · exact ⟨RS.StepE.load 8 (.bool true) (by kernel_rfl) (by kernel_rfl) rfl (fun f w h => h) (fun f w p1 p2 h => n_lss (a := i) (b := n) (r := true) (decide_eq_true (show i < n from by omega)) rfl (by kernel_rfl) (by kernel_rfl)), trivial⟩
      rintro f wx hf rfl
      clear hf
      (try simp only [RS.sets, List.setIfInBounds_toArray, List.set_cons_zero, List.set_cons_succ])
      obtain ⟨ad, ea, -⟩ := el38 (Kd.C_below HC.out HB.out) HN.out i hin
      subst ea
      obtain ⟨x, hx⟩ : ∃ x, C.getD i z38 = x := ⟨_, rfl⟩
      have HX := Aside0.mk hx
      have HFN := Aside0.mk (funs_next (C := C) (i := i) (by rw [HN.out]; exact hin))
      have hle := funs_le C i
      rw [HN.out] at hle
      rw [hx] at HFN
      obtain ⟨pre, hpre⟩ : ∃ pre, funs (C.take i) = pre := ⟨_, rfl⟩
      rw [hpre] at HO HFN hle HNIL
      clear hx hpre
      go_upto_region 3 with (fail)
      refine wp_region_lit ?_
      refine RS.t1 9 rfl (by kernel_rfl) (.pointer (some (ad.add (i * 4)))) (idx33 (n := n) (c := c) (i := i) hin rfl (by kernel_rfl) (by kernel_rfl)) ?_
      (try simp only [Act.put, List.setIfInBounds_toArray, List.set_cons_zero, List.set_cons_succ])
      refine RS.t1 10 rfl (by kernel_rfl) (.agg (encS x)) (load38 HX.out (Kd.C_below HC.out HB.out) HN.out hin rfl (by kernel_rfl)) ?_
      (try simp only [Act.put, List.setIfInBounds_toArray, List.set_cons_zero, List.set_cons_succ])
      obtain ⟨g4, hg4⟩ : ∃ g4, wr.heap.size = g4 := ⟨_, rfl⟩
      have HG4 := Aside0.mk hg4
      refine RS.tE 4 rfl (by kernel_rfl) (v := .pointer (some ⟨g4, 0, none⟩)) ((show _ = Result.ok (.value (.pointer (some ⟨wr.heap.size, 0, none⟩))) (wr.alloc (.cells #[.string ⟨#[]⟩, .int .u64 0, .int .u64 0, .bool false] 38 (0, 0))) from by kernel_rfl).trans (by rw [hg4])) ?_
      obtain ⟨w3, hw3⟩ : ∃ w3, (wr.alloc (.cells #[.string ⟨#[]⟩, .int .u64 0, .int .u64 0, .bool false] 38 (0, 0))) = w3 := ⟨_, rfl⟩
      rw [hw3]
      have B3 := Aside0.mk (show Below wr.heap.size wr w3 by rw [← hw3]; exact bX_ (Below.refl _ _) _)
      have hn3 : w3.heap[g4]? = some (.cells #[.string ⟨#[]⟩, .int .u64 0, .int .u64 0, .bool false] 38 (0, 0)) := by rw [← hw3, ← hg4]; exact World.alloc_heap_new wr _
      have HO3 := Aside0.mk (own_move HO.out (fun k hk => B3.out.block k (own_lt HO.out k hk)))
      clear hw3 hg4
      (try simp only [Act.put, List.setIfInBounds_toArray, List.set_cons_zero, List.set_cons_succ])
      refine RS.tS rfl (by kernel_rfl) (run_store_row (g := g4) (cells := encS x) rfl (by kernel_rfl) (by kernel_rfl) hn3 (by kernel_rfl) rfl (by simp [encS, Value.oneCell'])) ?_
      obtain ⟨w4, hw4⟩ : ∃ w4, w3.setRow g4 (encS x) = w4 := ⟨_, rfl⟩
      have hb4 : Below wr.heap.size wr (w3.setRow g4 (encS x)) := below_setRow B3.out (by rw [HG4.out]; exact Nat.le_refl _) _
      have hn4 := setRow_heap w3 g4 _ (encS x) 38 (0, 0) hn3
      rw [hw4] at hb4 hn4
      rw [hw4]
      have B4 := Aside0.mk hb4
      have N4 := Aside0.mk hn4
      have O4 := Aside0.mk (own_move HO.out (fun k hk => hb4.block k (own_lt HO.out k hk)))
      have BB4 := Aside0.mk (below_step HB.out hb4)
      clear hw4 hb4 hn4 hn3 HO3
      obtain ⟨x0, x1, x2, x3⟩ := x
      have hc3 : w4.cell? ⟨g4, 3, none⟩ = some (.bool x3) := (bC_ N4.out 3).trans rfl
      cases x3
      · go_upto_region 6 with (fail)
        clear hc3
        go_wp2_with fail
        exact ⟨⟨i + 1, by omega, by go_num, BB4.out, by rw [HFN.out, if_neg (fun h => by cases h)]; exact O4.out, by rw [HFN.out, if_neg (fun h => by cases h)]; exact HNIL.out⟩, by simp [intOf]; omega⟩
      · go_upto_region 5 with (fail)
        clear hc3
        refine wp_region_lit ?_
        refine RS.t1 13 rfl (by kernel_rfl) (u2) (by kernel_rfl) ?_
        (try simp only [Act.put, List.setIfInBounds_toArray, List.set_cons_zero, List.set_cons_succ])
        refine RS.t1 14 rfl (by kernel_rfl) (.agg (encS ⟨x0, x1, x2, true⟩)) (load_row (g := g4) N4.out Try.underlying38 rfl (by kernel_rfl) rfl (by kernel_rfl)) ?_
        (try simp only [Act.put, List.setIfInBounds_toArray, List.set_cons_zero, List.set_cons_succ])
        obtain ⟨g5, hg5⟩ : ∃ g5, w4.heap.size = g5 := ⟨_, rfl⟩
        refine RS.tE 15 rfl (by kernel_rfl) (v := .slice (some ⟨g5, 0, none⟩) 1 1) ((show _ = Result.ok (.value (.slice (some ⟨w4.heap.size, 0, none⟩) 1 1)) (w4.alloc (.cells (encS ⟨x0, x1, x2, true⟩) 38 (0, 0))) from by kernel_rfl).trans (by rw [hg5])) ?_
        obtain ⟨w5, hw5⟩ : ∃ w5, w4.alloc (.cells (encS ⟨x0, x1, x2, true⟩) 38 (0, 0)) = w5 := ⟨_, rfl⟩
        rw [hw5]
        have hb5 : Below w4.heap.size w4 w5 := by rw [← hw5]; exact bX_ (Below.refl _ _) _
        have hn5 : w5.heap[g5]? = some (.cells (encS ⟨x0, x1, x2, true⟩) 38 (0, 0)) := by rw [← hw5, ← hg5]; exact World.alloc_heap_new w4 _
        have O5 := own_move O4.out (fun k hk => hb5.block k (own_lt O4.out k hk))
        have BB5 := below_step BB4.out hb5
        clear hw5
        (try simp only [Act.put, List.setIfInBounds_toArray, List.set_cons_zero, List.set_cons_succ])
        refine app38_seq (by kernel_rfl) O5 hn5 BB5.size (by omega) rfl (by kernel_rfl) (by kernel_rfl) ?_
        intro v6 w6 ho6 hgr hat
        (try simp only [Act.put, List.setIfInBounds_toArray, List.set_cons_zero, List.set_cons_succ])
        refine RS.t1 2 rfl (by kernel_rfl) (v6) (by kernel_rfl) ?_
        (try simp only [Act.put, List.setIfInBounds_toArray, List.set_cons_zero, List.set_cons_succ])
        go_wp2_with fail
        exact ⟨⟨i + 1, by omega, by go_num, BB5.grown hgr BB5.size (own_base O5), by rw [HFN.out, if_pos rfl]; exact ho6, by rw [HFN.out, if_pos rfl]; simp⟩, by simp [intOf]; omega⟩
    · have hie : i = n := by omega
      subst hie
      have hft : C.take i = C := List.take_of_length_le (by rw [HN.out]; exact Nat.le_refl _)
      rw [hft] at HO HNIL
      have hfl : (funs C).length ≤ i := by rw [← HN.out]; exact List.length_filter_le _ _
      go_upto_region 2 with (fail)
      refine RS.wp_textE [(8, .bool false)] (fun f w => wr = w) (by kernel_rfl) (by kernel_rfl) (fun f hf => ?_) ?_ ?_
      · rfl
      · exact ⟨RS.StepE.load 8 (.bool false) (by kernel_rfl) (by kernel_rfl) rfl (fun f w h => h) (fun f w p1 p2 h => n_lss (a := i) (b := i) (r := false) (decide_eq_false (show ¬ (i < i) from by omega)) rfl (by kernel_rfl) (by kernel_rfl)), trivial⟩
      rintro f wx hf rfl
      clear hf
      (try simp only [RS.sets, List.setIfInBounds_toArray, List.set_cons_zero, List.set_cons_succ])
      rcases Nat.eq_zero_or_pos (funs C).length with h0 | h0
      · have e0 : funs C = [] := List.eq_nil_of_length_eq_zero h0
        have hu := HNIL.out e0
        subst hu
        go_wp2_with (go_at_call 29; refine (sort_nil _).mono ?_; rintro e w' ⟨rfl, rfl⟩)
        go_ret
        exact ⟨_, rfl, [], by rw [e0]; exact SS.short (by simp), nil_R38 _ _ HB.out⟩
      · obtain ⟨g, cap, rfl, hsb⟩ : ∃ g cap, u2 = .slice (some ⟨g, 0, none⟩) (funs C).length cap ∧ SB w0.heap.size g cap (funs C) wr := by
          obtain ⟨hl, ⟨-, h⟩ | ⟨g, cap, cur, rfl, hg, hh, h1, h2, h3, h4⟩⟩ := HO.out
          · omega
          · exact ⟨g, cap, rfl, SB.mk' hg hh h1 h2 h3 h4⟩
        have HS := Aside0.mk hsb
        clear hsb
        go_wp2_with (go_at_call 29; refine (sort_calls w0.heap.size g cap (funs C).length (funs C) _ HS.out rfl (by omega)).mono ?_; rintro e w' ⟨rfl, ys, hss, hsw⟩; have HSS := Aside0.mk hss; have HSW := Aside0.mk hsw; clear hss hsw)
        go_ret
        have hl := HSS.out.length
        have hR := HSW.out.2.to_R
        rw [hl] at hR
        exact ⟨_, rfl, ys, HSS.out, hR, HB.out.trans (HSW.out.1.below HB.out.size (fun k hk e => by have := HSW.out.2.block.1; omega))⟩
end Go.Proofs.Ytgdhciilobnelaa.B
namespace Go.Proofs.Ytgdhciilobnelaa.B
open Go.RowKit
set_option linter.unusedVariables false
set_option linter.unusedSimpArgs false
def NoZ (s : ByteArray) : Prop := ∀ b ∈ s.data.toList, b ≠ 0
def symO (x : S41) : S38 := ⟨x.f0, x.f3, x.f4, (bits .and .u8 x.f1 15 == 2) && !(x.f2 == 0)⟩
theorem bytesOf_strB (s : ByteArray) : Lib.bytesOf (strB s) = s.data.toList := by
  unfold Lib.bytesOf strB
  rw [List.map_map]
  conv => rhs; rw [← List.map_id s.data.toList]
  apply List.map_congr_left
  intro b _
  simp
theorem strOfNums_strB (s : ByteArray) : strOfNums (strB s) = s := by
  have h := bytesOf_strB s
  unfold Lib.bytesOf at h
  unfold strOfNums
  rw [h]
theorem index_zero : ∀ (l r : List UInt8), (∀ b ∈ l, b ≠ 0) → Lib.indexByte (l ++ 0 :: r) 0 = (l.length : Int)
  | [], r, _ => by simp [Lib.indexByte]
  | b :: l, r, h => by
    have h1 := h b List.mem_cons_self
    have h2 := index_zero l r (fun x hx => h x (List.mem_cons_of_mem _ hx))
    rw [List.cons_append]
    unfold Lib.indexByte
    rw [h2]
    simp [h1]
theorem name_at (P R : List Int) (s : ByteArray) (h : NoZ s) : nameAt (P ++ (strB s ++ 0 :: R)) (P.length : Int) = some s := by
  have hd : (P ++ (strB s ++ 0 :: R)).drop P.length = strB s ++ 0 :: R := by rw [List.drop_left]
  have hi : Lib.indexByte (Lib.bytesOf (strB s ++ 0 :: R)) 0 = (s.size : Int) := by
    have : Lib.bytesOf (strB s ++ 0 :: R) = s.data.toList ++ 0 :: Lib.bytesOf R := by
      have := bytesOf_strB s
      unfold Lib.bytesOf at this ⊢
      rw [List.map_append, this]
      rfl
    rw [this, index_zero _ _ h]
    rfl
  unfold nameAt
  rw [if_pos (by rw [List.length_append, List.length_append, List.length_cons]; omega), Int.toNat_natCast, hd, hi, if_pos (Int.natCast_nonneg _), Int.toNat_natCast]
  congr 1
  have := strB_length s
  rw [List.take_append_of_le_length (by omega), List.take_of_length_le (by omega), strOfNums_strB]
theorem ent_num (o : Int) (x : S41) (R : List Int) (ho : 0 ≤ o ∧ o < 4294967296) (hx : S41ok x) :
    numAt (entB o x ++ R) (0, 4) = o ∧ numAt (entB o x ++ R) (8, 8) = x.f3 ∧ numAt (entB o x ++ R) (16, 8) = x.f4 ∧ symF (entB o x ++ R) = ((bits .and .u8 x.f1 15 == 2) && !(x.f2 == 0)) := by
  obtain ⟨-, h1, h2, h3, h4⟩ := hx
  refine ⟨num_b4 ho.1 ho.2, num_b8 h3, num_b8 h4, ?_⟩
  have e : numAt (entB o x ++ R) (6, 2) = x.f2 := num_b2 h2.1 h2.2
  unfold symF
  rw [e]
  rfl
theorem strP_split (l : List S41) {i : Nat} (h : i < l.length) : ∃ R, strP l = strP (l.take i) ++ (strB (l.getD i z41).f0 ++ 0 :: R) := by
  have e : l = l.take i ++ l.getD i z41 :: l.drop (i + 1) := by
    rw [List.getD_eq_getElem?_getD, List.getElem?_eq_getElem h]
    show l = l.take i ++ l[i] :: l.drop (i + 1)
    rw [← List.drop_eq_getElem_cons h, List.take_append_drop]
  refine ⟨(l.drop (i + 1)).flatMap fun x => strB x.f0 ++ [0], ?_⟩
  conv => lhs; rw [e]
  unfold strP
  rw [List.flatMap_append, List.flatMap_cons]
  simp
theorem tabP_drop (l : List S41) (n : Nat) {i : Nat} (h : i < n) : ∃ R, (tabP l n).drop (24 * (i + 1)) = entB ((strP (l.take i)).length : Int) (l.getD i z41) ++ R := by
  induction n with
  | zero => omega
  | succ n ih =>
    rw [tabP_succ]
    have hl := tabP_len l n
    by_cases hi : i < n
    · obtain ⟨R, hR⟩ := ih hi
      rw [List.drop_append_of_le_length (by rw [hl]; omega), hR]
      exact ⟨R ++ entB ((strP (l.take n)).length : Int) (l.getD n z41), by rw [List.append_assoc]⟩
    · obtain rfl : i = n := by omega
      rw [← hl, List.drop_left]
      exact ⟨[], by simp⟩
theorem symL_made {l : List S41} (hok : ∀ x ∈ l, S41ok x) (hz : ∀ x ∈ l, NoZ x.f0) (h60 : l.length ≤ 60) : symL (tabP l l.length) (strP l) = l.map fun x => (symO x, true) := by
  unfold symL
  rw [tabP_len, show 24 * (l.length + 1) / 24 - 1 = l.length by omega]
  apply List.ext_getElem
  · simp
  · intro i h1 h2
    have hi : i < l.length := by simpa using h2
    rw [List.getElem_map, List.getElem_map, List.getElem_range]
    obtain ⟨R, hR⟩ := tabP_drop l l.length hi
    obtain ⟨S, hS⟩ := strP_split l hi
    have hm : l.getD i z41 ∈ l := by rw [List.getD_eq_getElem?_getD, List.getElem?_eq_getElem hi]; exact List.getElem_mem hi
    have e : l[i] = l.getD i z41 := by rw [List.getD_eq_getElem?_getD, List.getElem?_eq_getElem hi]; rfl
    have hle : (strP (l.take i)).length ≤ 3661 := by
      have := strP_le (l := l.take i) (fun x hx => hok x (List.mem_of_mem_take hx))
      rw [List.length_take] at this
      omega
    obtain ⟨n0, n1, n2, n3⟩ := ent_num ((strP (l.take i)).length : Int) (l.getD i z41) R ⟨by omega, by omega⟩ (hok _ hm)
    rw [hR, e]
    unfold symE
    rw [n0, n1, n2, n3, hS, name_at _ _ _ (hz _ hm)]
    rfl
theorem madeB_len (a : Nat) (l : List S41) : (madeB a l).length = a + 24 * (l.length + 1) + (strP l).length := by
  unfold madeB
  rw [List.length_append, List.length_append, List.length_replicate, tabP_len]
  omega
def secsG (each kind link : Int) (o1 s1 o2 s2 : Int) : List S45 := [z45, ⟨2, o1, s1, link, each⟩, ⟨kind, o2, s2, 0, 0⟩]
theorem secsM_eq (a : Nat) (l : List S41) : secsM a l = secsG 24 3 2 (a : Int) ((24 * (l.length + 1) : Nat) : Int) ((a + 24 * (l.length + 1) : Nat) : Int) ((strP l).length : Int) := rfl
theorem secI_G (each kind link o1 s1 o2 s2 : Int) : secI (secsG each kind link o1 s1 o2 s2) = 1 := rfl
theorem readN_G (xs : List Int) (each kind link o1 s1 o2 s2 : Int) : readN xs (secsG each kind link o1 s1 o2 s2) =
    if goodN ⟨2, o1, s1, link, each⟩ (secsG each kind link o1 s1 o2 s2) = true then
      (let C := secsG each kind link o1 s1 o2 s2
      if fits xs.length o1 s1 ∧ fits xs.length (C.getD link.toNat z45).f1 (C.getD link.toNat z45).f2 then gathN (symL (cutN xs ⟨2, o1, s1, link, each⟩) (cutN xs (C.getD link.toNat z45))) else ([], 33))
    else ([], 32) := by
  unfold readN
  rw [secI_G]
  rfl
theorem gathN_map {α : Type} (l : List α) (f : α → S38) : gathN (l.map fun x => (f x, true)) = (l.map f, 0) := by
  unfold gathN
  rw [if_pos (List.all_eq_true.2 (fun y hy => by obtain ⟨x, _, rfl⟩ := List.mem_map.1 hy; rfl)), List.map_map]
  rfl
theorem readN_made {a : Nat} {l : List S41} (behind : List Int) (hok : ∀ x ∈ l, S41ok x) (hz : ∀ x ∈ l, NoZ x.f0) (h60 : l.length ≤ 60) : readN (madeB a l ++ behind) (secsM a l) = (l.map symO, 0) := by
  rw [secsM_eq, readN_G, if_pos]
  · have hf : fits (madeB a l ++ behind).length (a : Int) ((24 * (l.length + 1) : Nat) : Int) ∧ fits (madeB a l ++ behind).length ((a + 24 * (l.length + 1) : Nat) : Int) ((strP l).length : Int) := by
      unfold fits
      rw [List.length_append, madeB_len]
      omega
    show (if fits (madeB a l ++ behind).length (a : Int) ((24 * (l.length + 1) : Nat) : Int) ∧ fits (madeB a l ++ behind).length ((a + 24 * (l.length + 1) : Nat) : Int) ((strP l).length : Int) then gathN (symL (cutN (madeB a l ++ behind) ⟨2, (a : Int), ((24 * (l.length + 1) : Nat) : Int), 2, 24⟩) (cutN (madeB a l ++ behind) ⟨3, ((a + 24 * (l.length + 1) : Nat) : Int), ((strP l).length : Int), 0, 0⟩)) else ([], 33)) = _
    rw [if_pos hf]
    have c1 : cutN (madeB a l ++ behind) ⟨2, (a : Int), ((24 * (l.length + 1) : Nat) : Int), 2, 24⟩ = tabP l l.length := by
      unfold cutN madeB
      simp only [Int.toNat_natCast]
      have hr : (List.replicate a (0 : Int)).length = a := List.length_replicate
      rw [List.append_assoc]
      conv => lhs; rw [show List.drop a (List.replicate a (0 : Int) ++ (tabP l l.length ++ strP l ++ behind)) = tabP l l.length ++ strP l ++ behind by
        have := List.drop_left (l₁ := List.replicate a (0 : Int)) (l₂ := tabP l l.length ++ strP l ++ behind)
        rwa [hr] at this]
      rw [List.append_assoc]
      have := List.take_left (l₁ := tabP l l.length) (l₂ := strP l ++ behind)
      rwa [tabP_len] at this
    have c2 : cutN (madeB a l ++ behind) ⟨3, ((a + 24 * (l.length + 1) : Nat) : Int), ((strP l).length : Int), 0, 0⟩ = strP l := by
      unfold cutN madeB
      simp only [Int.toNat_natCast]
      have hr : (List.replicate a (0 : Int) ++ tabP l l.length).length = a + 24 * (l.length + 1) := by rw [List.length_append, List.length_replicate, tabP_len]
      rw [← List.append_assoc (List.replicate a (0 : Int)), List.append_assoc (List.replicate a (0 : Int) ++ tabP l l.length)]
      have := List.drop_left (l₁ := List.replicate a (0 : Int) ++ tabP l l.length) (l₂ := strP l ++ behind)
      rw [hr] at this
      rw [this, List.take_left]
    rw [c1, c2, symL_made hok hz h60, gathN_map]
  · unfold goodN
    have e1 : ((24 * (l.length + 1) : Nat) : Int) % 24 = 0 := by omega
    have e2 : ((24 * (l.length + 1) : Nat) : Int) / 24 ≤ 200 := by omega
    simp only [e1, decide_eq_true e2]
    rfl
theorem readN_place {xs : List Int} {o1 s1 o2 s2 : Int} (h1 : s1 % 24 = 0) (h2 : s1 / 24 ≤ 200) (h : ¬ fits xs.length o2 s2) : readN xs (secsG 24 3 2 o1 s1 o2 s2) = ([], 33) := by
  rw [readN_G, if_pos]
  · show (if fits xs.length o1 s1 ∧ fits xs.length o2 s2 then _ else _) = _
    rw [if_neg (fun h' => h h'.2)]
  · unfold goodN
    simp only [h1, decide_eq_true h2]
    rfl
end Go.Proofs.Ytgdhciilobnelaa.B
namespace Go.Proofs.Ytgdhciilobnelaa.B
open Go.RowKit Go.Lib Go.Proofs.YtgdhciilobnelaaW.PrintWords Go.Proofs.YtgdhciilobnelaaW.PrintLast Go.Proofs.YtgdhciilobnelaaW.PrintMore Go.RF
set_option linter.unusedVariables false
set_option linter.unusedSimpArgs false
section
variable {P : Program} {o : Oper} {ρ : Operand → Value} {x y : Operand} {w : World}
theorem ld {t : TypeId} {ad : Addr} {v : Value} {d : TypeDesc} (hu : P.underlying t = some d) (hd : (match d with | .struct _ | .array _ _ => false | _ => true) = true) (h : w.cell? ad = some v) (ho : o.op = .load t x) (hx : ρ x = .pointer (some ad)) : (execOp ρ o).run P w = .ok (.value v) w := by
  refine run_load ho hx ?_
  have ha : (isAgg t).run P w = .ok false w := by
    unfold isAgg
    rw [Sem.run_bind, run_underlying hu]
    simp only [Result.andThen_ok]
    cases d <;> first | rfl | simp at hd
  go_simp
theorem st {t : TypeId} {ad : Addr} {u v : Value} (hi : (P.info? t).map (·.size) = some 1) (h1 : v.oneCell' = true) (h : w.cell? ad = some u) (hf : w.frozen? ad = false) (ho : o.op = .store t x y) (hx : ρ x = .pointer (some ad)) (hy : ρ y = v) : (execOp ρ o).run P w = .ok .skip (w.setCell ad v) := by
  refine run_storeOp ho hx hy ?_
  obtain ⟨i, hi1, hi2⟩ := Option.map_eq_some_iff.1 hi
  have hs : (sizeOf t).run P w = .ok 1 w := by simp [sizeOf, typeInfo, hi1, hi2]
  have hc : v.cells = #[v] := by
    cases v <;> first | rfl | (simp [Value.oneCell'] at h1)
  have hadd : ad.add 0 = ad := by unfold Addr.add; simp
  have hst : (store ad v).run P w = .ok () (w.setCell ad v) := by
    rw [run_store P w ad v _ h1, h]
    simp only [hf]
    rfl
  unfold Instr.storeAt Instr.sureAddr storeVar
  simp only [Sem.run_bind, Sem.run_pure, Result.andThen_ok, hs, hc]
  simp [storeCells, hadd, hst, Sem.run_bind]
theorem c_neq {t : TypeId} {k : IntKind} {a b : Int} {r : Bool} (h : (!(a == b)) = r) (ho : o.op = .binOp .neq t x y t) (hx : ρ x = .int k a) (hy : ρ y = .int k b) : (execOp ρ o).run P w = .ok (.value (.bool r)) w := by
  refine run_bin ho hx hy (by rfl) ?_
  subst h
  simp [binOp, Op.intCmp, bne]
theorem c_eql {t : TypeId} {k : IntKind} {a b : Int} {r : Bool} (h : (a == b) = r) (ho : o.op = .binOp .eql t x y t) (hx : ρ x = .int k a) (hy : ρ y = .int k b) : (execOp ρ o).run P w = .ok (.value (.bool r)) w := by
  refine run_bin ho hx hy (by rfl) ?_
  subst h
  simp [binOp, Op.intCmp, bne]
theorem c_lss {t : TypeId} {k : IntKind} {a b : Int} {r : Bool} (h : decide (a < b) = r) (ho : o.op = .binOp .lss t x y t) (hx : ρ x = .int k a) (hy : ρ y = .int k b) : (execOp ρ o).run P w = .ok (.value (.bool r)) w := by
  refine run_bin ho hx hy (by rfl) ?_
  subst h
  simp [binOp, Op.intCmp, bne]
theorem c_gtr {t : TypeId} {k : IntKind} {a b : Int} {r : Bool} (h : decide (b < a) = r) (ho : o.op = .binOp .gtr t x y t) (hx : ρ x = .int k a) (hy : ρ y = .int k b) : (execOp ρ o).run P w = .ok (.value (.bool r)) w := by
  refine run_bin ho hx hy (by rfl) ?_
  subst h
  simp [binOp, Op.intCmp, bne]
end
theorem nil_C {α : Type} (d : Kd α) (w : World) (A : Option Addr) : d.C w A 0 [] := ⟨rfl, by decide, fun h => absurd h (by decide)⟩
theorem C_of_block {α : Type} (d : Kd α) {w : World} {g : Nat} {cs : Array Value} {t : TypeId} {xs : List α} (hg : w.heap[g]? = some (.cells cs t (0, 0))) (hr : Reps (d.K w) d.sz xs cs.toList) (hn : xs.length ≤ 9223372036854775807) : d.C w (some ⟨g, 0, none⟩) xs.length xs := by
  obtain ⟨hl, hr⟩ := hr
  refine ⟨rfl, hn, fun _ => ⟨_, rfl, fun j p hj => ⟨(cs.toList.drop (j * d.sz)).take d.sz, ?_, hr j p hj, fun i u hu => ?_⟩⟩⟩
  · exact d.K_len (hr j p hj)
  · have hi : i < d.sz := by
      have := (List.getElem?_eq_some_iff.1 hu).1
      rw [List.length_take] at this
      omega
    rw [List.getElem?_take, if_pos hi, List.getElem?_drop] at hu
    rw [addz, bC_ hg]
    simpa using hu
theorem Reps.K_of {α : Type} (d : Kd α) {w : World} {base : Nat} {ok : Nat → Prop} {xs : List α} {cs : List Value} (h : Reps (d.M w base ok) d.sz xs cs) : Reps (d.K w) d.sz xs cs := h.imp_ (fun _ _ hp => d.K_of_M hp)
theorem Rd38.form {w w' : World} {v : Value} {r : List S38} (h : Rd38 w w' v r) : ∃ A c, v = .slice A r.length c ∧ r.length ≤ c ∧ Kd.C k38 w' A r.length r ∧ Below w.heap.size w w' := by
  obtain ⟨A, c, e, hc, hC⟩ := Kd.R_reads h.1
  exact ⟨A, c, e, hc, hC, h.2⟩
end Go.Proofs.Ytgdhciilobnelaa.B
namespace Go.Proofs.Ytgdhciilobnelaa.B
open Go.RowKit Go.Lib Go.Proofs.YtgdhciilobnelaaW.PrintWords Go.Proofs.YtgdhciilobnelaaW.PrintLast Go.Proofs.YtgdhciilobnelaaW.PrintMore Go.RF
set_option linter.unusedVariables false
set_option linter.unusedSimpArgs false
attribute [local go_sem] max2_int min2_int max_two min_two
def ex1 : S41 := ⟨⟨#[120]⟩, 1, 1, 0, 0⟩
def ex2 : S41 := ⟨⟨#[102]⟩, 18, 1, 77, 5⟩
theorem ex_ok : ∀ x ∈ [ex1, ex2], S41ok x := by
  intro x hx
  simp only [List.mem_cons, List.not_mem_nil, or_false] at hx
  rcases hx with rfl | rfl <;> exact ⟨by decide, by decide, by decide, by unfold Rg; decide, by unfold Rg; decide⟩
theorem ex_nz : ∀ x ∈ [ex1, ex2], NoZ x.f0 := by
  intro x hx
  simp only [List.mem_cons, List.not_mem_nil, or_false] at hx
  rcases hx with rfl | rfl <;> (intro b hb; simp [ex1, ex2] at hb; subst hb; decide)
def exS1 : S38 := ⟨⟨#[120]⟩, 0, 0, false⟩
def exS2 : S38 := ⟨⟨#[102]⟩, 77, 5, true⟩
theorem ex_read : readN (madeB 10 [ex1, ex2]) (secsM 10 [ex1, ex2]) = ([exS1, exS2], 0) := by
  have h := readN_made (a := 10) (l := [ex1, ex2]) [] ex_ok ex_nz (by decide)
  rw [List.append_nil] at h
  rw [h]
  rfl
theorem ex_funs : funs [exS1, exS2] = [exS2] := by rfl
theorem BB_made (a : Nat) {l : List S41} (hok : ∀ x ∈ l, S41ok x) : BB (madeB a l) := by
  have hb : ∀ (x : Int) (i : Nat), 0 ≤ byteN x i ∧ byteN x i < 256 := fun x i => by unfold byteN; exact ⟨Int.emod_nonneg _ (by decide), Int.emod_lt_of_pos _ (by decide)⟩
  have hs : BB (strP l) := by
    intro x hx
    unfold strP at hx
    rcases List.mem_cons.1 hx with rfl | hx
    · decide
    · obtain ⟨y, _, hy⟩ := List.mem_flatMap.1 hx
      rcases List.mem_append.1 hy with hy | hy
      · unfold strB at hy
        obtain ⟨b, _, rfl⟩ := List.mem_map.1 hy
        have := b.toNat_lt
        omega
      · rw [List.mem_singleton.1 hy]; decide
  have ht : BB (tabP l l.length) := by
    intro x hx
    unfold tabP at hx
    rcases List.mem_append.1 hx with hx | hx
    · rw [List.eq_of_mem_replicate hx]; decide
    · obtain ⟨j, hj, hy⟩ := List.mem_flatMap.1 hx
      have hj := List.mem_range.1 hj
      have hm : l.getD j z41 ∈ l := by rw [List.getD_eq_getElem?_getD, List.getElem?_eq_getElem hj]; exact List.getElem_mem hj
      have h1 := (hok _ hm).2.1
      unfold entB at hy
      simp only [b4, b2, b8, List.mem_append, List.mem_cons, List.not_mem_nil, or_false] at hy
      rcases hy with (rfl | rfl | rfl | rfl) | (rfl | rfl) | (rfl | rfl) | (rfl | rfl | rfl | rfl | rfl | rfl | rfl | rfl) | (rfl | rfl | rfl | rfl | rfl | rfl | rfl | rfl) <;> first | exact hb _ _ | exact h1 | decide
  exact BB_append (fun x hx => by rw [List.eq_of_mem_replicate hx]; decide) (BB_append ht hs)
theorem secs_made {a : Nat} {l : List S41} (ha : a ≤ 200) (h60 : l.length ≤ 60) (hok : ∀ x ∈ l, S41ok x) : ∀ s ∈ secsM a l, Sec45 s := by
  have h1 := strP_le hok
  intro s hs
  unfold secsM at hs
  simp only [List.mem_cons, List.not_mem_nil, or_false] at hs
  unfold Sec45 Rg
  rcases hs with rfl | rfl | rfl
  · decide
  · exact ⟨by show (0 : Int) ≤ 2; decide, by show (2 : Int) < 4294967296; decide, ⟨by show (0 : Int) ≤ (a : Int); omega, by show (a : Int) < _; omega⟩, ⟨by show (0 : Int) ≤ ((24 * (l.length + 1) : Nat) : Int); omega, by show ((24 * (l.length + 1) : Nat) : Int) < _; omega⟩, by show (0 : Int) ≤ 2; decide, by show (2 : Int) < 4294967296; decide, by show (0 : Int) ≤ 24; decide, by show (24 : Int) < 18446744073709551616; decide⟩
  · exact ⟨by show (0 : Int) ≤ 3; decide, by show (3 : Int) < 4294967296; decide, ⟨by show (0 : Int) ≤ ((a + 24 * (l.length + 1) : Nat) : Int); omega, by show ((a + 24 * (l.length + 1) : Nat) : Int) < _; omega⟩, ⟨by show (0 : Int) ≤ ((strP l).length : Int); omega, by show ((strP l).length : Int) < _; omega⟩, by show (0 : Int) ≤ 0; decide, by show (0 : Int) < 4294967296; decide, by show (0 : Int) ≤ 0; decide, by show (0 : Int) < 18446744073709551616; decide⟩
set_option maxHeartbeats 8000000 in
set_option maxRecDepth 100000 in
theorem wakes_calls (w0 : World) : Calls Try.prog 8 #[] w0 fun e w' => e = .returned (.bool true) ∧ Below w0.heap.size w0 w' := by
  have hu30 := Aside0.mk Try.underlying30
  go_enter Try.func8, Try.ntmps8
  go_upto_region 0 with (fail)
  refine RS.wp_textE [(0, .bool false)] (fun f w => w0 = w) (by kernel_rfl) (by kernel_rfl) (fun f hf => ?_) ?_ ?_
  · rfl
  · exact ⟨RS.StepE.pure 0 (by kernel_rfl) rfl (fun w => by kernel_rfl) (fun f w h => h), trivial⟩
  rintro f wx hf rfl
  clear hf
  (try simp only [RS.sets, List.setIfInBounds_toArray, List.set_cons_zero, List.set_cons_succ])
  go_upto_region 1 with (fail)
  refine wp_region_lit ?_
  refine RS.t1 12 rfl (by kernel_rfl) (.agg #[.int .u64 0, .int .u64 0, .int .u64 0, .slice none 0 0, .slice none 0 0]) (by kernel_rfl) ?_
  (try simp only [Act.put, List.setIfInBounds_toArray, List.set_cons_zero, List.set_cons_succ])
  refine RS.tC 13 rfl (by kernel_rfl) (show _ = Result.ok (Next.enter 10 #[.slice none 0 0, .agg #[.int .u64 0, .int .u64 0, .int .u64 0, .slice none 0 0, .slice none 0 0]]) _ from by kernel_rfl) ?_
  refine (read_calls none 0 [] 0 0 0 none 0 0 none 0 0 [] w0 (nil_C _ _ _) (Nat.le_refl _) (by decide) (by intro x hx; cases hx) (.inr rfl) (nil_C _ _ _) rfl (by decide) (by intro s hs; cases hs)).mono ?_
  rintro e w1 ⟨v1, rfl, hr⟩
  obtain ⟨A1, c1, rfl, -, -, hb1⟩ := hr.form
  have B1 := Aside0.mk hb1
  clear hr hb1
  refine ⟨_, rfl, ?_⟩
  (try simp only [Act.put, List.setIfInBounds_toArray, List.set_cons_zero, List.set_cons_succ])
  refine RS.t1 11 rfl (by kernel_rfl) (.tuple #[.slice A1 0 c1, .int .i64 0]) (by kernel_rfl) ?_
  (try simp only [Act.put, List.setIfInBounds_toArray, List.set_cons_zero, List.set_cons_succ])
  refine RS.t1 14 rfl (by kernel_rfl) (.slice A1 0 c1) (by kernel_rfl) ?_
  (try simp only [Act.put, List.setIfInBounds_toArray, List.set_cons_zero, List.set_cons_succ])
  refine RS.t1 15 rfl (by kernel_rfl) (.int .i64 0) (by kernel_rfl) ?_
  (try simp only [Act.put, List.setIfInBounds_toArray, List.set_cons_zero, List.set_cons_succ])
  refine RS.t1 1 rfl (by kernel_rfl) (.slice A1 0 c1) (by kernel_rfl) ?_
  (try simp only [Act.put, List.setIfInBounds_toArray, List.set_cons_zero, List.set_cons_succ])
  refine RS.t1 2 rfl (by kernel_rfl) (.int .i64 0) (by kernel_rfl) ?_
  (try simp only [Act.put, List.setIfInBounds_toArray, List.set_cons_zero, List.set_cons_succ])
  go_upto_region 2 with (fail)
  refine wp_region_lit ?_
  refine RS.t1 17 rfl (by kernel_rfl) (.agg #[.string ⟨#[120]⟩, .int .u8 1, .int .u16 1, .int .u64 0, .int .u64 0]) (by kernel_rfl) ?_
  (try simp only [Act.put, List.setIfInBounds_toArray, List.set_cons_zero, List.set_cons_succ])
  refine RS.t1 18 rfl (by kernel_rfl) (.agg #[.string ⟨#[102]⟩, .int .u8 18, .int .u16 1, .int .u64 77, .int .u64 5]) (by kernel_rfl) ?_
  (try simp only [Act.put, List.setIfInBounds_toArray, List.set_cons_zero, List.set_cons_succ])
  obtain ⟨gs, hg_⟩ : ∃ g_, w1.heap.size = g_ := ⟨_, rfl⟩
  refine RS.tE 19 rfl (by kernel_rfl) (v := .slice (some ⟨gs, 0, none⟩) 2 2) ((show _ = Result.ok (.value (.slice (some ⟨w1.heap.size, 0, none⟩) 2 2)) (w1.alloc (.cells #[.string ⟨#[120]⟩, .int .u8 1, .int .u16 1, .int .u64 0, .int .u64 0, .string ⟨#[102]⟩, .int .u8 18, .int .u16 1, .int .u64 77, .int .u64 5] 41 (0, 0))) from by kernel_rfl).trans (by rw [hg_])) ?_
  obtain ⟨w2, hw_⟩ : ∃ w_, w1.alloc (.cells #[.string ⟨#[120]⟩, .int .u8 1, .int .u16 1, .int .u64 0, .int .u64 0, .string ⟨#[102]⟩, .int .u8 18, .int .u16 1, .int .u64 77, .int .u64 5] 41 (0, 0)) = w_ := ⟨_, rfl⟩
  rw [hw_]
  have hb_ : Below w1.heap.size w1 w2 := by rw [← hw_]; exact bX_ (Below.refl _ _) _
  have hn_ : w2.heap[gs]? = some (.cells #[.string ⟨#[120]⟩, .int .u8 1, .int .u16 1, .int .u64 0, .int .u64 0, .string ⟨#[102]⟩, .int .u8 18, .int .u16 1, .int .u64 77, .int .u64 5] 41 (0, 0)) := by rw [← hw_, ← hg_]; exact World.alloc_heap_new w1 _
  have hB2 := Aside0.mk (below_step B1.out hb_)
  have HCl := Aside0.mk (C_of_block k41 (xs := [ex1, ex2]) hn_ (Reps.K_of k41 (base := 0) (ok := fun _ => True) (Reps.c5 (k41_mkM _ _ _ ex1) (Reps.c5 (k41_mkM _ _ _ ex2) (Reps.none _ _)))) (by decide))
  clear hw_ hb_ hn_
  (try simp only [Act.put, List.setIfInBounds_toArray, List.set_cons_zero, List.set_cons_succ])
  refine RS.tC 20 rfl (by kernel_rfl) (show _ = Result.ok (Next.enter 9 #[.int .i64 10, .slice (some ⟨gs, 0, none⟩) 2 2]) _ from by kernel_rfl) ?_
  refine (made_calls 10 (some ⟨gs, 0, none⟩) 2 2 [ex1, ex2] w2 (by decide) HCl.out rfl (by decide) ex_ok).mono ?_
  rintro e w3 ⟨gb, capb, As, c3, rfl, hO, hC, hb3⟩
  have hB3 := Aside0.mk (below_step hB2.out hb3)
  have HO3 := Aside0.mk hO
  have HC3 := Aside0.mk hC
  clear hO hC hb3 HCl
  refine ⟨_, rfl, ?_⟩
  (try simp only [Act.put, List.setIfInBounds_toArray, List.set_cons_zero, List.set_cons_succ])
  refine RS.t1 16 rfl (by kernel_rfl) (.tuple #[.slice (some ⟨gb, 0, none⟩) (madeB 10 [ex1, ex2]).length capb, .agg #[.int .u64 0, .int .u64 0, .int .u64 0, .slice none 0 0, .slice As 3 c3]]) (by kernel_rfl) ?_
  (try simp only [Act.put, List.setIfInBounds_toArray, List.set_cons_zero, List.set_cons_succ])
  refine RS.t1 21 rfl (by kernel_rfl) (.slice (some ⟨gb, 0, none⟩) (madeB 10 [ex1, ex2]).length capb) (by kernel_rfl) ?_
  (try simp only [Act.put, List.setIfInBounds_toArray, List.set_cons_zero, List.set_cons_succ])
  refine RS.t1 22 rfl (by kernel_rfl) (.agg #[.int .u64 0, .int .u64 0, .int .u64 0, .slice none 0 0, .slice As 3 c3]) (by kernel_rfl) ?_
  (try simp only [Act.put, List.setIfInBounds_toArray, List.set_cons_zero, List.set_cons_succ])
  obtain ⟨g4, hg_⟩ : ∃ g_, w3.heap.size = g_ := ⟨_, rfl⟩
  refine RS.tE 4 rfl (by kernel_rfl) (v := .pointer (some ⟨g4, 0, none⟩)) ((show _ = Result.ok (.value (.pointer (some ⟨w3.heap.size, 0, none⟩))) (w3.alloc (.cells #[.int .u64 0, .int .u64 0, .int .u64 0, .slice none 0 0, .slice none 0 0] 30 (0, 0))) from by kernel_rfl).trans (by rw [hg_])) ?_
  obtain ⟨w4, hw_⟩ : ∃ w_, w3.alloc (.cells #[.int .u64 0, .int .u64 0, .int .u64 0, .slice none 0 0, .slice none 0 0] 30 (0, 0)) = w_ := ⟨_, rfl⟩
  rw [hw_]
  have hb_ : Below w3.heap.size w3 w4 := by rw [← hw_]; exact bX_ (Below.refl _ _) _
  have hn_ : w4.heap[g4]? = some (.cells #[.int .u64 0, .int .u64 0, .int .u64 0, .slice none 0 0, .slice none 0 0] 30 (0, 0)) := by rw [← hw_, ← hg_]; exact World.alloc_heap_new w3 _
  have hB4 := Aside0.mk (below_step hB3.out hb_)
  have HO4 := Aside0.mk (HO3.out.met hb_)
  have HC4 := Aside0.mk (Kd.C_below HC3.out hb_)
  have H34 := Aside0.mk hb_
  have N4 := Aside0.mk hn_
  have HG4 := Aside0.mk hg_
  clear hw_ hb_ hn_
  (try simp only [Act.put, List.setIfInBounds_toArray, List.set_cons_zero, List.set_cons_succ])
  refine RS.t1 3 rfl (by kernel_rfl) (.slice (some ⟨gb, 0, none⟩) (madeB 10 [ex1, ex2]).length capb) (by kernel_rfl) ?_
  (try simp only [Act.put, List.setIfInBounds_toArray, List.set_cons_zero, List.set_cons_succ])
  refine RS.tS rfl (by kernel_rfl) (run_store_row (g := g4) (cells := #[.int .u64 0, .int .u64 0, .int .u64 0, .slice none 0 0, .slice As 3 c3]) rfl (by kernel_rfl) (by kernel_rfl) N4.out (by kernel_rfl) rfl (by simp [Value.oneCell'])) ?_
  obtain ⟨w5, hw_⟩ : ∃ w_, w4.setRow g4 #[.int .u64 0, .int .u64 0, .int .u64 0, .slice none 0 0, .slice As 3 c3] = w_ := ⟨_, rfl⟩
  rw [hw_]
  have hb_ : Below w3.heap.size w3 w5 := by rw [← hw_]; exact below_setRow H34.out (by rw [HG4.out]; exact Nat.le_refl _) _
  have hn_ : w5.heap[g4]? = some (.cells #[.int .u64 0, .int .u64 0, .int .u64 0, .slice none 0 0, .slice As 3 c3] 30 (0, 0)) := by rw [← hw_]; exact setRow_heap w4 g4 _ _ 30 (0, 0) N4.out
  have hB5 := Aside0.mk (below_step hB3.out hb_)
  have HO5 := Aside0.mk (HO3.out.met hb_)
  have HC5 := Aside0.mk (Kd.C_below HC3.out hb_)
  have N5 := Aside0.mk hn_
  clear hw_ hb_ hn_
  clear HO3 HC3 HO4 HC4 H34 N4 HG4
  go_upto_region 3 with (fail)
  refine wp_region_lit ?_
  refine RS.t1 24 rfl (by kernel_rfl) (.slice (some ⟨gb, 0, none⟩) (madeB 10 [ex1, ex2]).length capb) (by kernel_rfl) ?_
  (try simp only [Act.put, List.setIfInBounds_toArray, List.set_cons_zero, List.set_cons_succ])
  refine RS.t1 25 rfl (by kernel_rfl) (.agg #[.int .u64 0, .int .u64 0, .int .u64 0, .slice none 0 0, .slice As 3 c3]) (load_row (g := g4) N5.out hu30.out rfl (by kernel_rfl) rfl (by kernel_rfl)) ?_
  (try simp only [Act.put, List.setIfInBounds_toArray, List.set_cons_zero, List.set_cons_succ])
  refine RS.tC 26 rfl (by kernel_rfl) (show _ = Result.ok (Next.enter 10 #[.slice (some ⟨gb, 0, none⟩) (madeB 10 [ex1, ex2]).length capb, .agg #[.int .u64 0, .int .u64 0, .int .u64 0, .slice none 0 0, .slice As 3 c3]]) _ from by kernel_rfl) ?_
  refine (read_calls (some ⟨gb, 0, none⟩) capb (madeB 10 [ex1, ex2]) 0 0 0 none 0 0 As c3 3 (secsM 10 [ex1, ex2]) w5 HO5.out.C HO5.out.cap_le (by decide) (BB_made _ ex_ok) (.inl (by decide)) HC5.out rfl (by decide) (secs_made (by decide) (by decide) ex_ok)).mono ?_
  rintro e w6 ⟨v6, rfl, hr⟩
  rw [ex_read] at hr
  obtain ⟨A6, c6, rfl, -, hC6, hb6⟩ := hr.form
  have hB6 := Aside0.mk (below_step hB5.out hb6)
  have HC6 := Aside0.mk hC6
  clear hr hb6 hC6
  rw [show (readN (madeB 10 [ex1, ex2]) (secsM 10 [ex1, ex2])).2 = 0 by rw [ex_read]]
  refine ⟨_, rfl, ?_⟩
  (try simp only [Act.put, List.setIfInBounds_toArray, List.set_cons_zero, List.set_cons_succ])
  refine RS.t1 23 rfl (by kernel_rfl) (.tuple #[.slice A6 2 c6, .int .i64 0]) (by kernel_rfl) ?_
  (try simp only [Act.put, List.setIfInBounds_toArray, List.set_cons_zero, List.set_cons_succ])
  refine RS.t1 27 rfl (by kernel_rfl) (.slice A6 2 c6) (by kernel_rfl) ?_
  (try simp only [Act.put, List.setIfInBounds_toArray, List.set_cons_zero, List.set_cons_succ])
  refine RS.t1 28 rfl (by kernel_rfl) (.int .i64 0) (by kernel_rfl) ?_
  (try simp only [Act.put, List.setIfInBounds_toArray, List.set_cons_zero, List.set_cons_succ])
  refine RS.t1 5 rfl (by kernel_rfl) (.slice A6 2 c6) (by kernel_rfl) ?_
  (try simp only [Act.put, List.setIfInBounds_toArray, List.set_cons_zero, List.set_cons_succ])
  refine RS.t1 6 rfl (by kernel_rfl) (.int .i64 0) (by kernel_rfl) ?_
  (try simp only [Act.put, List.setIfInBounds_toArray, List.set_cons_zero, List.set_cons_succ])
  clear HO5 HC5 N5
  go_upto_region 4 with (fail)
  refine wp_region_lit ?_
  refine RS.t1 30 rfl (by kernel_rfl) (.slice A6 2 c6) (by kernel_rfl) ?_
  (try simp only [Act.put, List.setIfInBounds_toArray, List.set_cons_zero, List.set_cons_succ])
  refine RS.tC 31 rfl (by kernel_rfl) (show _ = Result.ok (Next.enter 14 #[.slice A6 2 c6, .string ⟨#[102]⟩]) _ from by kernel_rfl) ?_
  refine (find_calls A6 c6 2 ⟨#[102]⟩ [exS1, exS2] w6 HC6.out rfl (by decide)).mono ?_
  rintro e w7 ⟨rfl, hb7⟩
  have hB7 := Aside0.mk (below_step hB6.out hb7)
  have HC7 := Aside0.mk (Kd.C_below HC6.out hb7)
  clear hb7
  refine ⟨_, rfl, ?_⟩
  (try simp only [Act.put, List.setIfInBounds_toArray, List.set_cons_zero, List.set_cons_succ])
  refine RS.t1 29 rfl (by kernel_rfl) (.tuple #[.agg #[.string ⟨#[102]⟩, .int .u64 77, .int .u64 5, .bool true], .int .i64 0]) (by kernel_rfl) ?_
  (try simp only [Act.put, List.setIfInBounds_toArray, List.set_cons_zero, List.set_cons_succ])
  refine RS.t1 32 rfl (by kernel_rfl) (.agg #[.string ⟨#[102]⟩, .int .u64 77, .int .u64 5, .bool true]) (by kernel_rfl) ?_
  (try simp only [Act.put, List.setIfInBounds_toArray, List.set_cons_zero, List.set_cons_succ])
  refine RS.t1 33 rfl (by kernel_rfl) (.int .i64 0) (by kernel_rfl) ?_
  (try simp only [Act.put, List.setIfInBounds_toArray, List.set_cons_zero, List.set_cons_succ])
  obtain ⟨g7, hg_⟩ : ∃ g_, w7.heap.size = g_ := ⟨_, rfl⟩
  refine RS.tE 7 rfl (by kernel_rfl) (v := .pointer (some ⟨g7, 0, none⟩)) ((show _ = Result.ok (.value (.pointer (some ⟨w7.heap.size, 0, none⟩))) (w7.alloc (.cells #[.string ⟨#[]⟩, .int .u64 0, .int .u64 0, .bool false] 38 (0, 0))) from by kernel_rfl).trans (by rw [hg_])) ?_
  obtain ⟨w8, hw_⟩ : ∃ w_, w7.alloc (.cells #[.string ⟨#[]⟩, .int .u64 0, .int .u64 0, .bool false] 38 (0, 0)) = w_ := ⟨_, rfl⟩
  rw [hw_]
  have hb_ : Below w7.heap.size w7 w8 := by rw [← hw_]; exact bX_ (Below.refl _ _) _
  have hn_ : w8.heap[g7]? = some (.cells #[.string ⟨#[]⟩, .int .u64 0, .int .u64 0, .bool false] 38 (0, 0)) := by rw [← hw_, ← hg_]; exact World.alloc_heap_new w7 _
  have hB8 := Aside0.mk (below_step hB7.out hb_)
  have H78 := Aside0.mk hb_
  have N8 := Aside0.mk hn_
  have HG7 := Aside0.mk hg_
  clear hw_ hb_ hn_
  (try simp only [Act.put, List.setIfInBounds_toArray, List.set_cons_zero, List.set_cons_succ])
  refine RS.tS rfl (by kernel_rfl) (run_store_row (g := g7) (cells := #[.string ⟨#[102]⟩, .int .u64 77, .int .u64 5, .bool true]) rfl (by kernel_rfl) (by kernel_rfl) N8.out (by kernel_rfl) rfl (by simp [Value.oneCell'])) ?_
  obtain ⟨w9, hw_⟩ : ∃ w_, w8.setRow g7 #[.string ⟨#[102]⟩, .int .u64 77, .int .u64 5, .bool true] = w_ := ⟨_, rfl⟩
  rw [hw_]
  have hb_ : Below w7.heap.size w7 w9 := by rw [← hw_]; exact below_setRow H78.out (by rw [HG7.out]; exact Nat.le_refl _) _
  have hn_ : w9.heap[g7]? = some (.cells #[.string ⟨#[102]⟩, .int .u64 77, .int .u64 5, .bool true] 38 (0, 0)) := by rw [← hw_]; exact setRow_heap w8 g7 _ _ 38 (0, 0) N8.out
  have hB9 := Aside0.mk (below_step hB7.out hb_)
  have HC9 := Aside0.mk (Kd.C_below HC7.out hb_)
  have N9 := Aside0.mk hn_
  clear hw_ hb_ hn_
  refine RS.t1 8 rfl (by kernel_rfl) (.int .i64 0) (by kernel_rfl) ?_
  (try simp only [Act.put, List.setIfInBounds_toArray, List.set_cons_zero, List.set_cons_succ])
  clear HC6 HC7 hB8 H78 N8 HG7
  go_upto_region 5 with (fail)
  refine wp_region_lit ?_
  refine RS.t1 35 rfl (by kernel_rfl) (.slice A6 2 c6) (by kernel_rfl) ?_
  (try simp only [Act.put, List.setIfInBounds_toArray, List.set_cons_zero, List.set_cons_succ])
  refine RS.tC 36 rfl (by kernel_rfl) (show _ = Result.ok (Next.enter 14 #[.slice A6 2 c6, .string ⟨#[120]⟩]) _ from by kernel_rfl) ?_
  refine (find_calls A6 c6 2 ⟨#[120]⟩ [exS1, exS2] w9 HC9.out rfl (by decide)).mono ?_
  rintro e w10 ⟨rfl, hb7⟩
  have hB10 := Aside0.mk (below_step hB9.out hb7)
  have HC10 := Aside0.mk (Kd.C_below HC9.out hb7)
  have N10 := Aside0.mk (heap_below hb7 N9.out)
  clear hb7
  refine ⟨_, rfl, ?_⟩
  (try simp only [Act.put, List.setIfInBounds_toArray, List.set_cons_zero, List.set_cons_succ])
  refine RS.t1 34 rfl (by kernel_rfl) (.tuple #[.agg #[.string ⟨#[]⟩, .int .u64 0, .int .u64 0, .bool false], .int .i64 40]) (by kernel_rfl) ?_
  (try simp only [Act.put, List.setIfInBounds_toArray, List.set_cons_zero, List.set_cons_succ])
  refine RS.t1 37 rfl (by kernel_rfl) (.agg #[.string ⟨#[]⟩, .int .u64 0, .int .u64 0, .bool false]) (by kernel_rfl) ?_
  (try simp only [Act.put, List.setIfInBounds_toArray, List.set_cons_zero, List.set_cons_succ])
  refine RS.t1 38 rfl (by kernel_rfl) (.int .i64 40) (by kernel_rfl) ?_
  (try simp only [Act.put, List.setIfInBounds_toArray, List.set_cons_zero, List.set_cons_succ])
  obtain ⟨g9, hg_⟩ : ∃ g_, w10.heap.size = g_ := ⟨_, rfl⟩
  refine RS.tE 9 rfl (by kernel_rfl) (v := .pointer (some ⟨g9, 0, none⟩)) ((show _ = Result.ok (.value (.pointer (some ⟨w10.heap.size, 0, none⟩))) (w10.alloc (.cells #[.string ⟨#[]⟩, .int .u64 0, .int .u64 0, .bool false] 38 (0, 0))) from by kernel_rfl).trans (by rw [hg_])) ?_
  obtain ⟨w11, hw_⟩ : ∃ w_, w10.alloc (.cells #[.string ⟨#[]⟩, .int .u64 0, .int .u64 0, .bool false] 38 (0, 0)) = w_ := ⟨_, rfl⟩
  rw [hw_]
  have hb_ : Below w10.heap.size w10 w11 := by rw [← hw_]; exact bX_ (Below.refl _ _) _
  have hn_ : w11.heap[g9]? = some (.cells #[.string ⟨#[]⟩, .int .u64 0, .int .u64 0, .bool false] 38 (0, 0)) := by rw [← hw_, ← hg_]; exact World.alloc_heap_new w10 _
  have H1011 := Aside0.mk hb_
  have N11 := Aside0.mk hn_
  have HG9 := Aside0.mk hg_
  clear hw_ hb_ hn_
  (try simp only [Act.put, List.setIfInBounds_toArray, List.set_cons_zero, List.set_cons_succ])
  refine RS.tS rfl (by kernel_rfl) (run_store_row (g := g9) (cells := #[.string ⟨#[]⟩, .int .u64 0, .int .u64 0, .bool false]) rfl (by kernel_rfl) (by kernel_rfl) N11.out (by kernel_rfl) rfl (by simp [Value.oneCell'])) ?_
  obtain ⟨w12, hw_⟩ : ∃ w_, w11.setRow g9 #[.string ⟨#[]⟩, .int .u64 0, .int .u64 0, .bool false] = w_ := ⟨_, rfl⟩
  rw [hw_]
  have hb_ : Below w10.heap.size w10 w12 := by rw [← hw_]; exact below_setRow H1011.out (by rw [HG9.out]; exact Nat.le_refl _) _
  have hn_ : w12.heap[g9]? = some (.cells #[.string ⟨#[]⟩, .int .u64 0, .int .u64 0, .bool false] 38 (0, 0)) := by rw [← hw_]; exact setRow_heap w11 g9 _ _ 38 (0, 0) N11.out
  have hB12 := Aside0.mk (below_step hB10.out hb_)
  have HC12 := Aside0.mk (Kd.C_below HC10.out hb_)
  have N12 := Aside0.mk (heap_below hb_ N10.out)
  clear hw_ hb_ hn_
  refine RS.t1 10 rfl (by kernel_rfl) (.int .i64 40) (by kernel_rfl) ?_
  (try simp only [Act.put, List.setIfInBounds_toArray, List.set_cons_zero, List.set_cons_succ])
  clear HC9 N9 HC10 N10 H1011 N11 HG9
  go_upto_region 6 with (fail)
  refine wp_region_lit ?_
  refine RS.t1 39 rfl (by kernel_rfl) (.slice A1 0 c1) (by kernel_rfl) ?_
  (try simp only [Act.put, List.setIfInBounds_toArray, List.set_cons_zero, List.set_cons_succ])
  refine RS.t1 40 rfl (by kernel_rfl) (.int .i64 0) (by kernel_rfl) ?_
  (try simp only [Act.put, List.setIfInBounds_toArray, List.set_cons_zero, List.set_cons_succ])
  refine RS.t1 41 rfl (by kernel_rfl) (.bool true) (by kernel_rfl) ?_
  (try simp only [Act.put, List.setIfInBounds_toArray, List.set_cons_zero, List.set_cons_succ])
  refine RS.t1 42 rfl (by kernel_rfl) (.bool true) (by kernel_rfl) ?_
  (try simp only [Act.put, List.setIfInBounds_toArray, List.set_cons_zero, List.set_cons_succ])
  refine RS.t1 43 rfl (by kernel_rfl) (.int .i64 0) (by kernel_rfl) ?_
  (try simp only [Act.put, List.setIfInBounds_toArray, List.set_cons_zero, List.set_cons_succ])
  refine RS.t1 44 rfl (by kernel_rfl) (.bool true) (by kernel_rfl) ?_
  (try simp only [Act.put, List.setIfInBounds_toArray, List.set_cons_zero, List.set_cons_succ])
  refine RS.t1 45 rfl (by kernel_rfl) (.bool true) (by kernel_rfl) ?_
  (try simp only [Act.put, List.setIfInBounds_toArray, List.set_cons_zero, List.set_cons_succ])
  refine RS.t1 46 rfl (by kernel_rfl) (.bool true) (by kernel_rfl) ?_
  (try simp only [Act.put, List.setIfInBounds_toArray, List.set_cons_zero, List.set_cons_succ])
  refine RS.t1 47 rfl (by kernel_rfl) (.int .i64 0) (by kernel_rfl) ?_
  (try simp only [Act.put, List.setIfInBounds_toArray, List.set_cons_zero, List.set_cons_succ])
  refine RS.t1 48 rfl (by kernel_rfl) (.bool true) (by kernel_rfl) ?_
  (try simp only [Act.put, List.setIfInBounds_toArray, List.set_cons_zero, List.set_cons_succ])
  refine RS.t1 49 rfl (by kernel_rfl) (.bool true) (by kernel_rfl) ?_
  (try simp only [Act.put, List.setIfInBounds_toArray, List.set_cons_zero, List.set_cons_succ])
  refine RS.t1 50 rfl (by kernel_rfl) (.bool true) (by kernel_rfl) ?_
  (try simp only [Act.put, List.setIfInBounds_toArray, List.set_cons_zero, List.set_cons_succ])
  refine RS.t1 51 rfl (by kernel_rfl) (.slice A6 2 c6) (by kernel_rfl) ?_
  (try simp only [Act.put, List.setIfInBounds_toArray, List.set_cons_zero, List.set_cons_succ])
  refine RS.t1 52 rfl (by kernel_rfl) (.int .i64 2) (by kernel_rfl) ?_
  (try simp only [Act.put, List.setIfInBounds_toArray, List.set_cons_zero, List.set_cons_succ])
  refine RS.t1 53 rfl (by kernel_rfl) (.bool true) (by kernel_rfl) ?_
  (try simp only [Act.put, List.setIfInBounds_toArray, List.set_cons_zero, List.set_cons_succ])
  refine RS.t1 54 rfl (by kernel_rfl) (.bool true) (by kernel_rfl) ?_
  (try simp only [Act.put, List.setIfInBounds_toArray, List.set_cons_zero, List.set_cons_succ])
  refine RS.t1 55 rfl (by kernel_rfl) (.bool true) (by kernel_rfl) ?_
  (try simp only [Act.put, List.setIfInBounds_toArray, List.set_cons_zero, List.set_cons_succ])
  refine RS.t1 56 rfl (by kernel_rfl) (.int .i64 0) (by kernel_rfl) ?_
  (try simp only [Act.put, List.setIfInBounds_toArray, List.set_cons_zero, List.set_cons_succ])
  refine RS.t1 57 rfl (by kernel_rfl) (.bool true) (by kernel_rfl) ?_
  (try simp only [Act.put, List.setIfInBounds_toArray, List.set_cons_zero, List.set_cons_succ])
  refine RS.t1 58 rfl (by kernel_rfl) (.bool true) (by kernel_rfl) ?_
  (try simp only [Act.put, List.setIfInBounds_toArray, List.set_cons_zero, List.set_cons_succ])
  refine RS.t1 59 rfl (by kernel_rfl) (.bool true) (by kernel_rfl) ?_
  (try simp only [Act.put, List.setIfInBounds_toArray, List.set_cons_zero, List.set_cons_succ])
  refine RS.t1 60 rfl (by kernel_rfl) (.pointer (some ⟨g7, 1, none⟩)) (by kernel_rfl) ?_
  (try simp only [Act.put, List.setIfInBounds_toArray, List.set_cons_zero, List.set_cons_succ])
  refine RS.t1 61 rfl (by kernel_rfl) (.int .u64 77) (ld (d := .int .u64) Try.underlying26 rfl ((bC_ N12.out 1).trans rfl) rfl (by kernel_rfl)) ?_
  (try simp only [Act.put, List.setIfInBounds_toArray, List.set_cons_zero, List.set_cons_succ])
  refine RS.t1 62 rfl (by kernel_rfl) (.bool true) (by kernel_rfl) ?_
  (try simp only [Act.put, List.setIfInBounds_toArray, List.set_cons_zero, List.set_cons_succ])
  refine RS.t1 63 rfl (by kernel_rfl) (.bool true) (by kernel_rfl) ?_
  (try simp only [Act.put, List.setIfInBounds_toArray, List.set_cons_zero, List.set_cons_succ])
  refine RS.t1 64 rfl (by kernel_rfl) (.bool true) (by kernel_rfl) ?_
  (try simp only [Act.put, List.setIfInBounds_toArray, List.set_cons_zero, List.set_cons_succ])
  refine RS.t1 65 rfl (by kernel_rfl) (.int .i64 40) (by kernel_rfl) ?_
  (try simp only [Act.put, List.setIfInBounds_toArray, List.set_cons_zero, List.set_cons_succ])
  refine RS.t1 66 rfl (by kernel_rfl) (.bool true) (by kernel_rfl) ?_
  (try simp only [Act.put, List.setIfInBounds_toArray, List.set_cons_zero, List.set_cons_succ])
  refine RS.t1 67 rfl (by kernel_rfl) (.bool true) (by kernel_rfl) ?_
  (try simp only [Act.put, List.setIfInBounds_toArray, List.set_cons_zero, List.set_cons_succ])
  refine RS.t1 68 rfl (by kernel_rfl) (.bool true) (by kernel_rfl) ?_
  (try simp only [Act.put, List.setIfInBounds_toArray, List.set_cons_zero, List.set_cons_succ])
  refine RS.t1 69 rfl (by kernel_rfl) (.slice A6 2 c6) (by kernel_rfl) ?_
  (try simp only [Act.put, List.setIfInBounds_toArray, List.set_cons_zero, List.set_cons_succ])
  refine RS.tC 70 rfl (by kernel_rfl) (show _ = Result.ok (Next.enter 16 #[.slice A6 2 c6]) _ from by kernel_rfl) ?_
  refine (functions_calls A6 c6 2 [exS1, exS2] w12 HC12.out rfl (by decide)).mono ?_
  rintro e w13 ⟨v13, rfl, ys, hss, hr⟩
  have hl13 : ys.length = 1 := by rw [hss.length, ex_funs]; rfl
  obtain ⟨A13, c13, rfl, -, -, hb13⟩ := hr.form
  have hB13 := Aside0.mk (below_step hB12.out hb13)
  rw [hl13]
  clear hr hb13 hss hl13
  refine ⟨_, rfl, ?_⟩
  (try simp only [Act.put, List.setIfInBounds_toArray, List.set_cons_zero, List.set_cons_succ])
  refine RS.t1 71 rfl (by kernel_rfl) (.int .i64 1) (by kernel_rfl) ?_
  (try simp only [Act.put, List.setIfInBounds_toArray, List.set_cons_zero, List.set_cons_succ])
  refine RS.t1 72 rfl (by kernel_rfl) (.bool true) (by kernel_rfl) ?_
  (try simp only [Act.put, List.setIfInBounds_toArray, List.set_cons_zero, List.set_cons_succ])
  refine RS.t1 73 rfl (by kernel_rfl) (.bool true) (by kernel_rfl) ?_
  (try simp only [Act.put, List.setIfInBounds_toArray, List.set_cons_zero, List.set_cons_succ])
  refine RS.t1 0 rfl (by kernel_rfl) (.bool true) (by kernel_rfl) ?_
  (try simp only [Act.put, List.setIfInBounds_toArray, List.set_cons_zero, List.set_cons_succ])
  go_wp2_with fail
  go_ret
  exact ⟨rfl, hB13.out⟩
end Go.Proofs.Ytgdhciilobnelaa.B
