/- names.Functions: the functions, sorted by their addresses, in order. What 'made' makes is read: the plain laws. Small laws of operations. Symbols compared; the plain laws of NamesFinds. -/
import Derived.Test.YtgdhciilobnelaaZf14
import Derived.Test.YtgdhciilobnelaaZf8
import Derived.Test.YtgdhciilobnelaaZf9
import Derived.Test.YtgdhciilobnelaaZf5
namespace Go.Proofs.Ytgdhciilobnelaa.B
open Go.RowKit Go.Lib Go.Proofs.YtgdhciilobnelaaW.PrintWords Go.Proofs.YtgdhciilobnelaaW.PrintLast Go.Proofs.YtgdhciilobnelaaW.PrintMore Go.RF
set_option linter.unusedVariables false
set_option linter.unusedSimpArgs false
attribute [local go_sem] max2_int min2_int max_two min_two
set_option maxHeartbeats 8000000 in
set_option maxRecDepth 100000 in
theorem insertion_nil (w0 : World) : Calls Try.prog 42 #[.slice none 0 0, .int .i64 0, .int .i64 0, .func (.func 30) #[] #[]] w0 fun e w' => e = .returned (.tuple #[]) ∧ w' = w0 := by
  go_enter Try.func42, Try.ntmps42
  go_upto_region 1 with (fail)
  go_loopw [8] (fun t wr => t = .int .i64 1 ∧ wr = w0) (fun t _ => 0)
  case atStart => exact ⟨rfl, rfl⟩
  case round =>
    obtain ⟨rfl, rfl⟩ := hrel
    go_wp2
    first | go_end0 | (refine bodyPost_ret (results_none rfl _ _ _) rfl ?_)
    exact ⟨rfl, rfl⟩
set_option maxHeartbeats 8000000 in
set_option maxRecDepth 100000 in
theorem stable_nil (w0 : World) : Calls Try.prog 38 #[.slice none 0 0, .int .i64 0, .func (.func 30) #[] #[]] w0 fun e w' => e = .returned (.tuple #[]) ∧ w' = w0 := by
  go_enter Try.func38, Try.ntmps38
  go_upto_region 2 with (fail)
  go_loopw [7, 8] (fun t u wr => t = .int .i64 0 ∧ u = .int .i64 20 ∧ wr = w0) (fun t u _ => 0)
  case atStart => exact ⟨rfl, rfl, rfl⟩
  case round =>
    obtain ⟨rfl, rfl, rfl⟩ := hrel
    go_upto_region 7 with (go_at_call 42; refine (insertion_nil _).mono ?_; rintro e w' ⟨rfl, rfl⟩)
    go_loopw [6] (fun t wq => t = .int .i64 20 ∧ wq = w') (fun t _ => 0)
    case atStart => exact ⟨rfl, rfl⟩
    case round =>
      obtain ⟨rfl, rfl⟩ := hrel
      go_wp2
      first | go_end0 | (refine bodyPost_ret (results_none rfl _ _ _) rfl ?_)
      exact ⟨rfl, rfl⟩
set_option maxHeartbeats 8000000 in
set_option maxRecDepth 100000 in
theorem sort_nil (w0 : World) : Calls Try.prog 29 #[.slice none 0 0, .func (.func 30) #[] #[]] w0 fun e w' => e = .returned (.tuple #[]) ∧ w' = w0 := by
  go_enter Try.func29, Try.ntmps29
  go_wp2_with (go_at_call 38; refine (stable_nil _).mono ?_; rintro e w' ⟨rfl, rfl⟩)
  first | go_end0 | (refine bodyPost_ret (results_none rfl _ _ _) rfl ?_)
  exact ⟨rfl, rfl⟩
theorem funs_next {C : List S38} {i : Nat} (h : i < C.length) : funs (C.take (i + 1)) = if (C.getD i z38).f3 = true then funs (C.take i) ++ [C.getD i z38] else funs (C.take i) := by
  unfold funs
  rw [(take_next h).1, List.filter_append]
  by_cases hf : (C.getD i z38).f3 = true
  · rw [if_pos hf, List.filter_cons_of_pos hf, List.filter_nil]
  · rw [if_neg hf, List.filter_cons_of_neg hf, List.filter_nil, List.append_nil]
theorem funs_le (C : List S38) (i : Nat) : (funs (C.take i)).length ≤ C.length := by
  unfold funs
  exact Nat.le_trans (List.length_filter_le _ _) (by rw [List.length_take]; omega)
set_option maxHeartbeats 8000000 in
set_option maxRecDepth 100000 in
theorem functions_calls (A : Option Addr) (c n : Nat) (C : List S38) (w0 : World) (hC : Kd.C k38 w0 A C.length C) (hn : C.length = n) (hm : n ≤ 10000) :
    Calls Try.prog 16 #[.slice A n c] w0 fun e w' => ∃ v, e = .returned v ∧ ∃ ys, SS (funs C) ys ∧ Rd38 w0 w' v ys := by
  have HC := Aside0.mk hC
  have HN := Aside0.mk hn
  clear hC hn
  go_enter Try.func16, Try.ntmps16
  go_upto_region 0 with (fail)
  refine RS.wp_textE [(2, .slice none 0 0)] (fun f w => w0 = w) (by kernel_rfl) (by kernel_rfl) (fun f hf => ?_) ?_ ?_
  · rfl
  · exact ⟨RS.StepE.pure 2 (by kernel_rfl) rfl (fun w => by kernel_rfl) (fun f w h => h), trivial⟩
  rintro f wx hf rfl
  clear hf
  (try simp only [RS.sets, List.setIfInBounds_toArray, List.set_cons_zero, List.set_cons_succ])
  go_upto_region 1 with (fail)
  refine RS.wp_textE [(5, .slice A n c), (6, .int .i64 ((n : Nat) : Int)), (7, .int .i64 ((0 : Nat) : Int))] (fun f w => w0 = w) (by kernel_rfl) (by kernel_rfl) (fun f hf => ?_) ?_ ?_
  · rfl
  · exact ⟨RS.StepE.pure 5 (by kernel_rfl) rfl (fun w => by kernel_rfl) (fun f w h => h),
      RS.StepE.pure 6 (by kernel_rfl) rfl (fun w => by kernel_rfl) (fun f w h => h),
      RS.StepE.pure 7 (by kernel_rfl) rfl (fun w => by kernel_rfl) (fun f w h => h), trivial⟩
  rintro f wx hf rfl
  clear hf
  (try simp only [RS.sets, List.setIfInBounds_toArray, List.set_cons_zero, List.set_cons_succ])
  go_upto_region 2 with (fail)
  go_loopw [2, 7] (fun v t wr => ∃ i : Nat, i ≤ n ∧ t = .int .i64 (i : Int) ∧ Below w0.heap.size w0 wr ∧ wr.ownsRow w0.heap.size 38 4 v (funs (C.take i)).length (fl (funs (C.take i))) ∧ (funs (C.take i) = [] → v = .slice none 0 0)) (fun v t _ => ((n : Int) - intOf t).toNat)
  case atStart => exact ⟨0, Nat.zero_le _, rfl, Below.refl _ _, own_nil _ _ _ _, fun _ => rfl⟩
  case round =>
    obtain ⟨i, hi, rfl, hb, ho, hnil⟩ := hrel
    have HNIL := Aside0.mk hnil
    have HB := Aside0.mk hb
    have HO := Aside0.mk ho
    clear hb ho hnil
    by_cases hin : i < n
    · go_upto_region 2 with (fail)
      refine RS.wp_textE [(8, .bool true)] (fun f w => wr = w) (by kernel_rfl) (by kernel_rfl) (fun f hf => ?_) ?_ ?_
      · rfl
      · exact ⟨RS.StepE.load 8 (.bool true) (by kernel_rfl) (by kernel_rfl) rfl (fun f w h => h) (fun f w p1 p2 h => n_lss (a := i) (b := n) (r := true) (decide_eq_true (show i < n from by omega)) rfl (by kernel_rfl) (by kernel_rfl)), trivial⟩
      rintro f wx hf rfl
      clear hf
      (try simp only [RS.sets, List.setIfInBounds_toArray, List.set_cons_zero, List.set_cons_succ])
      obtain ⟨ad, ea, -⟩ := el38 (Kd.C_below HC.out HB.out) HN.out i hin
      subst ea
      obtain ⟨x, hx⟩ : ∃ x, C.getD i z38 = x := ⟨_, rfl⟩
      have HX := Aside0.mk hx
      have HFN := Aside0.mk (funs_next (C := C) (i := i) (by rw [HN.out]; exact hin))
      have hle := funs_le C i
      rw [HN.out] at hle
      rw [hx] at HFN
      obtain ⟨pre, hpre⟩ : ∃ pre, funs (C.take i) = pre := ⟨_, rfl⟩
      rw [hpre] at HO HFN hle HNIL
      clear hx hpre
      go_upto_region 3 with (fail)
      refine wp_region_lit ?_
      refine RS.t1 9 rfl (by kernel_rfl) (.pointer (some (ad.add (i * 4)))) (idx33 (n := n) (c := c) (i := i) hin rfl (by kernel_rfl) (by kernel_rfl)) ?_
      (try simp only [Act.put, List.setIfInBounds_toArray, List.set_cons_zero, List.set_cons_succ])
      refine RS.t1 10 rfl (by kernel_rfl) (.agg (encS x)) (load38 HX.out (Kd.C_below HC.out HB.out) HN.out hin rfl (by kernel_rfl)) ?_
      (try simp only [Act.put, List.setIfInBounds_toArray, List.set_cons_zero, List.set_cons_succ])
      obtain ⟨g4, hg4⟩ : ∃ g4, wr.heap.size = g4 := ⟨_, rfl⟩
      have HG4 := Aside0.mk hg4
      refine RS.tE 4 rfl (by kernel_rfl) (v := .pointer (some ⟨g4, 0, none⟩)) ((show _ = Result.ok (.value (.pointer (some ⟨wr.heap.size, 0, none⟩))) (wr.alloc (.cells #[.string ⟨#[]⟩, .int .u64 0, .int .u64 0, .bool false] 38 (0, 0))) from by kernel_rfl).trans (by rw [hg4])) ?_
      obtain ⟨w3, hw3⟩ : ∃ w3, (wr.alloc (.cells #[.string ⟨#[]⟩, .int .u64 0, .int .u64 0, .bool false] 38 (0, 0))) = w3 := ⟨_, rfl⟩
      rw [hw3]
      have B3 := Aside0.mk (show Below wr.heap.size wr w3 by rw [← hw3]; exact bX_ (Below.refl _ _) _)
      have hn3 : w3.heap[g4]? = some (.cells #[.string ⟨#[]⟩, .int .u64 0, .int .u64 0, .bool false] 38 (0, 0)) := by rw [← hw3, ← hg4]; exact World.alloc_heap_new wr _
      have HO3 := Aside0.mk (own_move HO.out (fun k hk => B3.out.block k (own_lt HO.out k hk)))
      clear hw3 hg4
      (try simp only [Act.put, List.setIfInBounds_toArray, List.set_cons_zero, List.set_cons_succ])
      refine RS.tS rfl (by kernel_rfl) (run_store_row (g := g4) (cells := encS x) rfl (by kernel_rfl) (by kernel_rfl) hn3 (by kernel_rfl) rfl (by simp [encS, Value.oneCell'])) ?_
      obtain ⟨w4, hw4⟩ : ∃ w4, w3.setRow g4 (encS x) = w4 := ⟨_, rfl⟩
      have hb4 : Below wr.heap.size wr (w3.setRow g4 (encS x)) := below_setRow B3.out (by rw [HG4.out]; exact Nat.le_refl _) _
      have hn4 := setRow_heap w3 g4 _ (encS x) 38 (0, 0) hn3
      rw [hw4] at hb4 hn4
      rw [hw4]
      have B4 := Aside0.mk hb4
      have N4 := Aside0.mk hn4
      have O4 := Aside0.mk (own_move HO.out (fun k hk => hb4.block k (own_lt HO.out k hk)))
      have BB4 := Aside0.mk (below_step HB.out hb4)
      clear hw4 hb4 hn4 hn3 HO3
      obtain ⟨x0, x1, x2, x3⟩ := x
      have hc3 : w4.cell? ⟨g4, 3, none⟩ = some (.bool x3) := (bC_ N4.out 3).trans rfl
      cases x3
      · go_upto_region 6 with (fail)
        clear hc3
        go_wp2_with fail
        exact ⟨⟨i + 1, by omega, by go_num, BB4.out, by rw [HFN.out, if_neg (fun h => by cases h)]; exact O4.out, by rw [HFN.out, if_neg (fun h => by cases h)]; exact HNIL.out⟩, by simp [intOf]; omega⟩
      · go_upto_region 5 with (fail)
        clear hc3
        refine wp_region_lit ?_
        refine RS.t1 13 rfl (by kernel_rfl) (u2) (by kernel_rfl) ?_
        (try simp only [Act.put, List.setIfInBounds_toArray, List.set_cons_zero, List.set_cons_succ])
        refine RS.t1 14 rfl (by kernel_rfl) (.agg (encS ⟨x0, x1, x2, true⟩)) (load_row (g := g4) N4.out Try.underlying38 rfl (by kernel_rfl) rfl (by kernel_rfl)) ?_
        (try simp only [Act.put, List.setIfInBounds_toArray, List.set_cons_zero, List.set_cons_succ])
        obtain ⟨g5, hg5⟩ : ∃ g5, w4.heap.size = g5 := ⟨_, rfl⟩
        refine RS.tE 15 rfl (by kernel_rfl) (v := .slice (some ⟨g5, 0, none⟩) 1 1) ((show _ = Result.ok (.value (.slice (some ⟨w4.heap.size, 0, none⟩) 1 1)) (w4.alloc (.cells (encS ⟨x0, x1, x2, true⟩) 38 (0, 0))) from by kernel_rfl).trans (by rw [hg5])) ?_
        obtain ⟨w5, hw5⟩ : ∃ w5, w4.alloc (.cells (encS ⟨x0, x1, x2, true⟩) 38 (0, 0)) = w5 := ⟨_, rfl⟩
        rw [hw5]
        have hb5 : Below w4.heap.size w4 w5 := by rw [← hw5]; exact bX_ (Below.refl _ _) _
        have hn5 : w5.heap[g5]? = some (.cells (encS ⟨x0, x1, x2, true⟩) 38 (0, 0)) := by rw [← hw5, ← hg5]; exact World.alloc_heap_new w4 _
        have O5 := own_move O4.out (fun k hk => hb5.block k (own_lt O4.out k hk))
        have BB5 := below_step BB4.out hb5
        clear hw5
        (try simp only [Act.put, List.setIfInBounds_toArray, List.set_cons_zero, List.set_cons_succ])
        refine app38_seq (by kernel_rfl) O5 hn5 BB5.size (by omega) rfl (by kernel_rfl) (by kernel_rfl) ?_
        intro v6 w6 ho6 hgr hat
        (try simp only [Act.put, List.setIfInBounds_toArray, List.set_cons_zero, List.set_cons_succ])
        refine RS.t1 2 rfl (by kernel_rfl) (v6) (by kernel_rfl) ?_
        (try simp only [Act.put, List.setIfInBounds_toArray, List.set_cons_zero, List.set_cons_succ])
        go_wp2_with fail
        exact ⟨⟨i + 1, by omega, by go_num, BB5.grown hgr BB5.size (own_base O5), by rw [HFN.out, if_pos rfl]; exact ho6, by rw [HFN.out, if_pos rfl]; simp⟩, by simp [intOf]; omega⟩
    · have hie : i = n := by omega
      subst hie
      have hft : C.take i = C := List.take_of_length_le (by rw [HN.out]; exact Nat.le_refl _)
      rw [hft] at HO HNIL
      have hfl : (funs C).length ≤ i := by rw [← HN.out]; exact List.length_filter_le _ _
      go_upto_region 2 with (fail)
      refine RS.wp_textE [(8, .bool false)] (fun f w => wr = w) (by kernel_rfl) (by kernel_rfl) (fun f hf => ?_) ?_ ?_
      · rfl
      · exact ⟨RS.StepE.load 8 (.bool false) (by kernel_rfl) (by kernel_rfl) rfl (fun f w h => h) (fun f w p1 p2 h => n_lss (a := i) (b := i) (r := false) (decide_eq_false (show ¬ (i < i) from by omega)) rfl (by kernel_rfl) (by kernel_rfl)), trivial⟩
      rintro f wx hf rfl
      clear hf
      (try simp only [RS.sets, List.setIfInBounds_toArray, List.set_cons_zero, List.set_cons_succ])
      rcases Nat.eq_zero_or_pos (funs C).length with h0 | h0
      · have e0 : funs C = [] := List.eq_nil_of_length_eq_zero h0
        have hu := HNIL.out e0
        subst hu
        go_wp2_with (go_at_call 29; refine (sort_nil _).mono ?_; rintro e w' ⟨rfl, rfl⟩)
        go_ret
        exact ⟨_, rfl, [], by rw [e0]; exact SS.short (by simp), nil_R38 _ _ HB.out⟩
      · obtain ⟨g, cap, rfl, hsb⟩ : ∃ g cap, u2 = .slice (some ⟨g, 0, none⟩) (funs C).length cap ∧ SB w0.heap.size g cap (funs C) wr := by
          obtain ⟨hl, ⟨-, h⟩ | ⟨g, cap, cur, rfl, hg, hh, h1, h2, h3, h4⟩⟩ := HO.out
          · omega
          · exact ⟨g, cap, rfl, SB.mk' hg hh h1 h2 h3 h4⟩
        have HS := Aside0.mk hsb
        clear hsb
        go_wp2_with (go_at_call 29; refine (sort_calls w0.heap.size g cap (funs C).length (funs C) _ HS.out rfl (by omega)).mono ?_; rintro e w' ⟨rfl, ys, hss, hsw⟩; have HSS := Aside0.mk hss; have HSW := Aside0.mk hsw; clear hss hsw)
        go_ret
        have hl := HSS.out.length
        have hR := HSW.out.2.to_R
        rw [hl] at hR
        exact ⟨_, rfl, ys, HSS.out, hR, HB.out.trans (HSW.out.1.below HB.out.size (fun k hk e => by have := HSW.out.2.block.1; omega))⟩
end Go.Proofs.Ytgdhciilobnelaa.B
namespace Go.Proofs.Ytgdhciilobnelaa.B
open Go.RowKit
set_option linter.unusedVariables false
set_option linter.unusedSimpArgs false
def NoZ (s : ByteArray) : Prop := ∀ b ∈ s.data.toList, b ≠ 0
def symO (x : S41) : S38 := ⟨x.f0, x.f3, x.f4, (bits .and .u8 x.f1 15 == 2) && !(x.f2 == 0)⟩
theorem bytesOf_strB (s : ByteArray) : Lib.bytesOf (strB s) = s.data.toList := by
  unfold Lib.bytesOf strB
  rw [List.map_map]
  conv => rhs; rw [← List.map_id s.data.toList]
  apply List.map_congr_left
  intro b _
  simp
theorem strOfNums_strB (s : ByteArray) : strOfNums (strB s) = s := by
  have h := bytesOf_strB s
  unfold Lib.bytesOf at h
  unfold strOfNums
  rw [h]
theorem index_zero : ∀ (l r : List UInt8), (∀ b ∈ l, b ≠ 0) → Lib.indexByte (l ++ 0 :: r) 0 = (l.length : Int)
  | [], r, _ => by simp [Lib.indexByte]
  | b :: l, r, h => by
    have h1 := h b List.mem_cons_self
    have h2 := index_zero l r (fun x hx => h x (List.mem_cons_of_mem _ hx))
    rw [List.cons_append]
    unfold Lib.indexByte
    rw [h2]
    simp [h1]
theorem name_at (P R : List Int) (s : ByteArray) (h : NoZ s) : nameAt (P ++ (strB s ++ 0 :: R)) (P.length : Int) = some s := by
  have hd : (P ++ (strB s ++ 0 :: R)).drop P.length = strB s ++ 0 :: R := by rw [List.drop_left]
  have hi : Lib.indexByte (Lib.bytesOf (strB s ++ 0 :: R)) 0 = (s.size : Int) := by
    have : Lib.bytesOf (strB s ++ 0 :: R) = s.data.toList ++ 0 :: Lib.bytesOf R := by
      have := bytesOf_strB s
      unfold Lib.bytesOf at this ⊢
      rw [List.map_append, this]
      rfl
    rw [this, index_zero _ _ h]
    rfl
  unfold nameAt
  rw [if_pos (by rw [List.length_append, List.length_append, List.length_cons]; omega), Int.toNat_natCast, hd, hi, if_pos (Int.natCast_nonneg _), Int.toNat_natCast]
  congr 1
  have := strB_length s
  rw [List.take_append_of_le_length (by omega), List.take_of_length_le (by omega), strOfNums_strB]
theorem ent_num (o : Int) (x : S41) (R : List Int) (ho : 0 ≤ o ∧ o < 4294967296) (hx : S41ok x) :
    numAt (entB o x ++ R) (0, 4) = o ∧ numAt (entB o x ++ R) (8, 8) = x.f3 ∧ numAt (entB o x ++ R) (16, 8) = x.f4 ∧ symF (entB o x ++ R) = ((bits .and .u8 x.f1 15 == 2) && !(x.f2 == 0)) := by
  obtain ⟨-, h1, h2, h3, h4⟩ := hx
  refine ⟨num_b4 ho.1 ho.2, num_b8 h3, num_b8 h4, ?_⟩
  have e : numAt (entB o x ++ R) (6, 2) = x.f2 := num_b2 h2.1 h2.2
  unfold symF
  rw [e]
  rfl
theorem strP_split (l : List S41) {i : Nat} (h : i < l.length) : ∃ R, strP l = strP (l.take i) ++ (strB (l.getD i z41).f0 ++ 0 :: R) := by
  have e : l = l.take i ++ l.getD i z41 :: l.drop (i + 1) := by
    rw [List.getD_eq_getElem?_getD, List.getElem?_eq_getElem h]
    show l = l.take i ++ l[i] :: l.drop (i + 1)
    rw [← List.drop_eq_getElem_cons h, List.take_append_drop]
  refine ⟨(l.drop (i + 1)).flatMap fun x => strB x.f0 ++ [0], ?_⟩
  conv => lhs; rw [e]
  unfold strP
  rw [List.flatMap_append, List.flatMap_cons]
  simp
theorem tabP_drop (l : List S41) (n : Nat) {i : Nat} (h : i < n) : ∃ R, (tabP l n).drop (24 * (i + 1)) = entB ((strP (l.take i)).length : Int) (l.getD i z41) ++ R := by
  induction n with
  | zero => omega
  | succ n ih =>
    rw [tabP_succ]
    have hl := tabP_len l n
    by_cases hi : i < n
    · obtain ⟨R, hR⟩ := ih hi
      rw [List.drop_append_of_le_length (by rw [hl]; omega), hR]
      exact ⟨R ++ entB ((strP (l.take n)).length : Int) (l.getD n z41), by rw [List.append_assoc]⟩
    · obtain rfl : i = n := by omega
      rw [← hl, List.drop_left]
      exact ⟨[], by simp⟩
theorem symL_made {l : List S41} (hok : ∀ x ∈ l, S41ok x) (hz : ∀ x ∈ l, NoZ x.f0) (h60 : l.length ≤ 60) : symL (tabP l l.length) (strP l) = l.map fun x => (symO x, true) := by
  unfold symL
  rw [tabP_len, show 24 * (l.length + 1) / 24 - 1 = l.length by omega]
  apply List.ext_getElem
  · simp
  · intro i h1 h2
    have hi : i < l.length := by simpa using h2
    rw [List.getElem_map, List.getElem_map, List.getElem_range]
    obtain ⟨R, hR⟩ := tabP_drop l l.length hi
    obtain ⟨S, hS⟩ := strP_split l hi
    have hm : l.getD i z41 ∈ l := by rw [List.getD_eq_getElem?_getD, List.getElem?_eq_getElem hi]; exact List.getElem_mem hi
    have e : l[i] = l.getD i z41 := by rw [List.getD_eq_getElem?_getD, List.getElem?_eq_getElem hi]; rfl
    have hle : (strP (l.take i)).length ≤ 3661 := by
      have := strP_le (l := l.take i) (fun x hx => hok x (List.mem_of_mem_take hx))
      rw [List.length_take] at this
      omega
    obtain ⟨n0, n1, n2, n3⟩ := ent_num ((strP (l.take i)).length : Int) (l.getD i z41) R ⟨by omega, by omega⟩ (hok _ hm)
    rw [hR, e]
    unfold symE
    rw [n0, n1, n2, n3, hS, name_at _ _ _ (hz _ hm)]
    rfl
theorem madeB_len (a : Nat) (l : List S41) : (madeB a l).length = a + 24 * (l.length + 1) + (strP l).length := by
  unfold madeB
  rw [List.length_append, List.length_append, List.length_replicate, tabP_len]
  omega
def secsG (each kind link : Int) (o1 s1 o2 s2 : Int) : List S45 := [z45, ⟨2, o1, s1, link, each⟩, ⟨kind, o2, s2, 0, 0⟩]
theorem secsM_eq (a : Nat) (l : List S41) : secsM a l = secsG 24 3 2 (a : Int) ((24 * (l.length + 1) : Nat) : Int) ((a + 24 * (l.length + 1) : Nat) : Int) ((strP l).length : Int) := rfl
theorem secI_G (each kind link o1 s1 o2 s2 : Int) : secI (secsG each kind link o1 s1 o2 s2) = 1 := rfl
theorem readN_G (xs : List Int) (each kind link o1 s1 o2 s2 : Int) : readN xs (secsG each kind link o1 s1 o2 s2) =
    if goodN ⟨2, o1, s1, link, each⟩ (secsG each kind link o1 s1 o2 s2) = true then
      (let C := secsG each kind link o1 s1 o2 s2
      if fits xs.length o1 s1 ∧ fits xs.length (C.getD link.toNat z45).f1 (C.getD link.toNat z45).f2 then gathN (symL (cutN xs ⟨2, o1, s1, link, each⟩) (cutN xs (C.getD link.toNat z45))) else ([], 33))
    else ([], 32) := by
  unfold readN
  rw [secI_G]
  rfl
theorem gathN_map {α : Type} (l : List α) (f : α → S38) : gathN (l.map fun x => (f x, true)) = (l.map f, 0) := by
  unfold gathN
  rw [if_pos (List.all_eq_true.2 (fun y hy => by obtain ⟨x, _, rfl⟩ := List.mem_map.1 hy; rfl)), List.map_map]
  rfl
theorem readN_made {a : Nat} {l : List S41} (behind : List Int) (hok : ∀ x ∈ l, S41ok x) (hz : ∀ x ∈ l, NoZ x.f0) (h60 : l.length ≤ 60) : readN (madeB a l ++ behind) (secsM a l) = (l.map symO, 0) := by
  rw [secsM_eq, readN_G, if_pos]
  · have hf : fits (madeB a l ++ behind).length (a : Int) ((24 * (l.length + 1) : Nat) : Int) ∧ fits (madeB a l ++ behind).length ((a + 24 * (l.length + 1) : Nat) : Int) ((strP l).length : Int) := by
      unfold fits
      rw [List.length_append, madeB_len]
      omega
    show (if fits (madeB a l ++ behind).length (a : Int) ((24 * (l.length + 1) : Nat) : Int) ∧ fits (madeB a l ++ behind).length ((a + 24 * (l.length + 1) : Nat) : Int) ((strP l).length : Int) then gathN (symL (cutN (madeB a l ++ behind) ⟨2, (a : Int), ((24 * (l.length + 1) : Nat) : Int), 2, 24⟩) (cutN (madeB a l ++ behind) ⟨3, ((a + 24 * (l.length + 1) : Nat) : Int), ((strP l).length : Int), 0, 0⟩)) else ([], 33)) = _
    rw [if_pos hf]
    have c1 : cutN (madeB a l ++ behind) ⟨2, (a : Int), ((24 * (l.length + 1) : Nat) : Int), 2, 24⟩ = tabP l l.length := by
      unfold cutN madeB
      simp only [Int.toNat_natCast]
      have hr : (List.replicate a (0 : Int)).length = a := List.length_replicate
      rw [List.append_assoc]
      conv => lhs; rw [show List.drop a (List.replicate a (0 : Int) ++ (tabP l l.length ++ strP l ++ behind)) = tabP l l.length ++ strP l ++ behind by
        have := List.drop_left (l₁ := List.replicate a (0 : Int)) (l₂ := tabP l l.length ++ strP l ++ behind)
        rwa [hr] at this]
      rw [List.append_assoc]
      have := List.take_left (l₁ := tabP l l.length) (l₂ := strP l ++ behind)
      rwa [tabP_len] at this
    have c2 : cutN (madeB a l ++ behind) ⟨3, ((a + 24 * (l.length + 1) : Nat) : Int), ((strP l).length : Int), 0, 0⟩ = strP l := by
      unfold cutN madeB
      simp only [Int.toNat_natCast]
      have hr : (List.replicate a (0 : Int) ++ tabP l l.length).length = a + 24 * (l.length + 1) := by rw [List.length_append, List.length_replicate, tabP_len]
      rw [← List.append_assoc (List.replicate a (0 : Int)), List.append_assoc (List.replicate a (0 : Int) ++ tabP l l.length)]
      have := List.drop_left (l₁ := List.replicate a (0 : Int) ++ tabP l l.length) (l₂ := strP l ++ behind)
      rw [hr] at this
      rw [this, List.take_left]
    rw [c1, c2, symL_made hok hz h60, gathN_map]
  · unfold goodN
    have e1 : ((24 * (l.length + 1) : Nat) : Int) % 24 = 0 := by omega
    have e2 : ((24 * (l.length + 1) : Nat) : Int) / 24 ≤ 200 := by omega
    simp only [e1, decide_eq_true e2]
    rfl
end Go.Proofs.Ytgdhciilobnelaa.B
namespace Go.Proofs.Ytgdhciilobnelaa.B
open Go.RowKit Go.Lib Go.Proofs.YtgdhciilobnelaaW.PrintWords Go.Proofs.YtgdhciilobnelaaW.PrintLast Go.Proofs.YtgdhciilobnelaaW.PrintMore Go.RF
set_option linter.unusedVariables false
set_option linter.unusedSimpArgs false
section
variable {P : Program} {o : Oper} {ρ : Operand → Value} {x y : Operand} {w : World}
theorem ld {t : TypeId} {ad : Addr} {v : Value} {d : TypeDesc} (hu : P.underlying t = some d) (hd : (match d with | .struct _ | .array _ _ => false | _ => true) = true) (h : w.cell? ad = some v) (ho : o.op = .load t x) (hx : ρ x = .pointer (some ad)) : (execOp ρ o).run P w = .ok (.value v) w := by
  refine run_load ho hx ?_
  have ha : (isAgg t).run P w = .ok false w := by
    unfold isAgg
    rw [Sem.run_bind, run_underlying hu]
    simp only [Result.andThen_ok]
    cases d <;> first | rfl | simp at hd
  go_simp
theorem st {t : TypeId} {ad : Addr} {u v : Value} (hi : (P.info? t).map (·.size) = some 1) (h1 : v.oneCell' = true) (h : w.cell? ad = some u) (hf : w.frozen? ad = false) (ho : o.op = .store t x y) (hx : ρ x = .pointer (some ad)) (hy : ρ y = v) : (execOp ρ o).run P w = .ok .skip (w.setCell ad v) := by
  refine run_storeOp ho hx hy ?_
  obtain ⟨i, hi1, hi2⟩ := Option.map_eq_some_iff.1 hi
  have hs : (sizeOf t).run P w = .ok 1 w := by simp [sizeOf, typeInfo, hi1, hi2]
  have hc : v.cells = #[v] := by
    cases v <;> first | rfl | (simp [Value.oneCell'] at h1)
  have hadd : ad.add 0 = ad := by unfold Addr.add; simp
  have hst : (store ad v).run P w = .ok () (w.setCell ad v) := by
    rw [run_store P w ad v _ h1, h]
    simp only [hf]
    rfl
  unfold Instr.storeAt Instr.sureAddr storeVar
  simp only [Sem.run_bind, Sem.run_pure, Result.andThen_ok, hs, hc]
  simp [storeCells, hadd, hst, Sem.run_bind]
theorem c_neq {t : TypeId} {k : IntKind} {a b : Int} {r : Bool} (h : (!(a == b)) = r) (ho : o.op = .binOp .neq t x y t) (hx : ρ x = .int k a) (hy : ρ y = .int k b) : (execOp ρ o).run P w = .ok (.value (.bool r)) w := by
  refine run_bin ho hx hy (by rfl) ?_
  subst h
  simp [binOp, Op.intCmp, bne]
theorem c_gtr {t : TypeId} {k : IntKind} {a b : Int} {r : Bool} (h : decide (b < a) = r) (ho : o.op = .binOp .gtr t x y t) (hx : ρ x = .int k a) (hy : ρ y = .int k b) : (execOp ρ o).run P w = .ok (.value (.bool r)) w := by
  refine run_bin ho hx hy (by rfl) ?_
  subst h
  simp [binOp, Op.intCmp, bne]
end
theorem nil_C {α : Type} (d : Kd α) (w : World) (A : Option Addr) : d.C w A 0 [] := ⟨rfl, by decide, fun h => absurd h (by decide)⟩
theorem C_of_block {α : Type} (d : Kd α) {w : World} {g : Nat} {cs : Array Value} {t : TypeId} {xs : List α} (hg : w.heap[g]? = some (.cells cs t (0, 0))) (hr : Reps (d.K w) d.sz xs cs.toList) (hn : xs.length ≤ 9223372036854775807) : d.C w (some ⟨g, 0, none⟩) xs.length xs := by
  obtain ⟨hl, hr⟩ := hr
  refine ⟨rfl, hn, fun _ => ⟨_, rfl, fun j p hj => ⟨(cs.toList.drop (j * d.sz)).take d.sz, ?_, hr j p hj, fun i u hu => ?_⟩⟩⟩
  · exact d.K_len (hr j p hj)
  · have hi : i < d.sz := by
      have := (List.getElem?_eq_some_iff.1 hu).1
      rw [List.length_take] at this
      omega
    rw [List.getElem?_take, if_pos hi, List.getElem?_drop] at hu
    rw [addz, bC_ hg]
    simpa using hu
theorem Reps.K_of {α : Type} (d : Kd α) {w : World} {base : Nat} {ok : Nat → Prop} {xs : List α} {cs : List Value} (h : Reps (d.M w base ok) d.sz xs cs) : Reps (d.K w) d.sz xs cs := h.imp_ (fun _ _ hp => d.K_of_M hp)
theorem Rd38.form {w w' : World} {v : Value} {r : List S38} (h : Rd38 w w' v r) : ∃ A c, v = .slice A r.length c ∧ r.length ≤ c ∧ Kd.C k38 w' A r.length r ∧ Below w.heap.size w w' := by
  obtain ⟨A, c, e, hc, hC⟩ := Kd.R_reads h.1
  exact ⟨A, c, e, hc, hC, h.2⟩
end Go.Proofs.Ytgdhciilobnelaa.B
namespace Go.Proofs.Ytgdhciilobnelaa.B
open Go.RowKit Go.Lib Go.Proofs.YtgdhciilobnelaaW.PrintWords Go.Proofs.YtgdhciilobnelaaW.PrintLast Go.Proofs.YtgdhciilobnelaaW.PrintMore Go.RF
set_option linter.unusedVariables false
set_option linter.unusedSimpArgs false
attribute [local go_sem] max2_int min2_int max_two min_two
def eqS (x y : S38) : Bool := x.f0.toList == y.f0.toList && (x.f1 == y.f1 && (x.f2 == y.f2 && (x.f3 == y.f3)))
theorem eqS_refl (x : S38) : eqS x x = true := by simp [eqS]
theorem eqS_eq {x y : S38} (h : eqS x y = true) : x = y := by
  obtain ⟨x0, x1, x2, x3⟩ := x
  obtain ⟨y0, y1, y2, y3⟩ := y
  simp only [eqS, Bool.and_eq_true, beq_iff_eq] at h
  obtain ⟨h0, rfl, rfl, rfl⟩ := h
  have : x0 = y0 := by
    rw [Lib.toList_data, Lib.toList_data] at h0
    obtain ⟨d⟩ := x0
    obtain ⟨e⟩ := y0
    have : d = e := Array.toList_inj.1 h0
    rw [this]
  rw [this]
section
variable {o : Oper} {ρ : Operand → Value} {x y : Operand} {a b : S38} {w : World}
attribute [local go_sem high] eqA38
theorem s_eql38 (ho : o.op = .binOp .eql 38 x y 38) (hx : ρ x = .agg (encS a)) (hy : ρ y = .agg (encS b)) : (execOp ρ o).run Try.prog w = .ok (.value (.bool (eqS a b))) w := by
  obtain ⟨a0, a1, a2, a3⟩ := a
  obtain ⟨b0, b1, b2, b3⟩ := b
  unfold encS at hx hy
  unfold execOp
  simp only [ho, hx, hy]
  go_simp
  rfl
theorem s_neq38 (ho : o.op = .binOp .neq 38 x y 38) (hx : ρ x = .agg (encS a)) (hy : ρ y = .agg (encS b)) : (execOp ρ o).run Try.prog w = .ok (.value (.bool (!(eqS a b)))) w := by
  obtain ⟨a0, a1, a2, a3⟩ := a
  obtain ⟨b0, b1, b2, b3⟩ := b
  unfold encS at hx hy
  unfold execOp
  simp only [ho, hx, hy]
  go_simp
  simp [eqS, Bool.not_and]
end
theorem countP_filter_of {p q : S38 → Bool} (h : ∀ x, p x = true → q x = true) : ∀ l : List S38, (l.filter q).countP p = l.countP p
  | [] => rfl
  | x :: r => by
    have ih := countP_filter_of h r
    by_cases hq : q x = true
    · rw [List.filter_cons_of_pos hq, List.countP_cons, List.countP_cons, ih]
    · rw [List.filter_cons_of_neg hq, List.countP_cons, ih, if_neg (fun hp => hq (h x hp))]
      omega
theorem count_funs {C ys : List S38} (h : SS (funs C) ys) {x : S38} (hx : x.f3 = true) : ys.countP (fun y => eqS y x) = C.countP (fun y => eqS y x) := by
  have k1 : ∀ y : S38, eqS y x = true → (y.f1 == x.f1) = true := fun y hy => by rw [eqS_eq hy]; simp
  have k2 : ∀ y : S38, eqS y x = true → y.f3 = true := fun y hy => by rw [eqS_eq hy]; exact hx
  rw [← countP_filter_of k1 ys, h.2 x.f1, countP_filter_of k1 (funs C)]
  exact countP_filter_of k2 C
theorem countP_next {C : List S38} {p : S38 → Bool} {i : Nat} (h : i < C.length) : (C.take (i + 1)).countP p = if p (C.getD i z38) = true then (C.take i).countP p + 1 else (C.take i).countP p := by
  rw [(take_next h).1, List.countP_append, List.countP_cons, List.countP_nil]
  split <;> omega
theorem countP_le (C : List S38) (p : S38 → Bool) (i : Nat) : (C.take i).countP p ≤ C.length := Nat.le_trans List.countP_le_length (by rw [List.length_take]; omega)
theorem mem_SS {X Y : List S38} (h : SS X Y) : ∀ y ∈ Y, y ∈ X := fun y hy => by
  have : y ∈ Y.filter (fun x => x.f1 == y.f1) := List.mem_filter.2 ⟨hy, by simp⟩
  rw [h.2 y.f1] at this
  exact (List.mem_filter.1 this).1
theorem ys_func {C ys : List S38} (h : SS (funs C) ys) {i : Nat} (hi : i < ys.length) : (ys.getD i z38).f3 = true := by
  have hm : ys.getD i z38 ∈ ys := by rw [List.getD_eq_getElem?_getD, List.getElem?_eq_getElem hi]; exact List.getElem_mem hi
  have := mem_SS h _ hm
  unfold funs at this
  simpa using (List.mem_filter.1 this).2
set_option maxHeartbeats 8000000 in
set_option maxRecDepth 100000 in
theorem equal_true (A B : Option Addr) (c d n : Nat) (C D : List S38) (w0 : World) (hC : Kd.C k38 w0 A C.length C) (hD : Kd.C k38 w0 B D.length D) (hn : C.length = n) (hm : D.length = n) (h5 : n ≤ 10000) (hall : ∀ i, i < n → eqS (C.getD i z38) (D.getD i z38) = true) :
    Calls Try.prog 26 #[.slice A n c, .slice B n d] w0 fun e w' => e = .returned (.bool true) ∧ Below w0.heap.size w0 w' := by
  have HC := Aside0.mk hC
  have HD := Aside0.mk hD
  have HN := Aside0.mk hn
  have HM := Aside0.mk hm
  have HALL := Aside0.mk hall
  clear hC hD hn hm hall
  go_enter Try.func26, Try.ntmps26
  go_upto_region 0 with (fail)
  refine RS.wp_textE [(4, .bool false)] (fun f w => w0 = w) (by kernel_rfl) (by kernel_rfl) (fun f hf => ?_) ?_ ?_
  · rfl
  · exact ⟨RS.StepE.pure 4 (by kernel_rfl) rfl (fun w => by kernel_rfl) (fun f w h => h), trivial⟩
  rintro f wx hf rfl
  clear hf
  (try simp only [RS.sets, List.setIfInBounds_toArray, List.set_cons_zero, List.set_cons_succ])
  go_upto_region 1 with (fail)
  refine RS.wp_textE [(6, .slice A n c), (7, .int .i64 ((n : Nat) : Int)), (8, .slice B n d), (9, .int .i64 ((n : Nat) : Int)), (10, .bool false)] (fun f w => w0 = w) (by kernel_rfl) (by kernel_rfl) (fun f hf => ?_) ?_ ?_
  · rfl
  · exact ⟨RS.StepE.pure 6 (by kernel_rfl) rfl (fun w => by kernel_rfl) (fun f w h => h),
      RS.StepE.pure 7 (by kernel_rfl) rfl (fun w => by kernel_rfl) (fun f w h => h),
      RS.StepE.pure 8 (by kernel_rfl) rfl (fun w => by kernel_rfl) (fun f w h => h),
      RS.StepE.pure 9 (by kernel_rfl) rfl (fun w => by kernel_rfl) (fun f w h => h),
      RS.StepE.load 10 (.bool false) (by kernel_rfl) (by kernel_rfl) rfl (fun f w h => h) (fun f w p1 p2 h => n_neq (a := n) (b := n) (r := false) (decide_eq_true (show n = n from by omega)) rfl (by kernel_rfl) (by kernel_rfl)), trivial⟩
  rintro f wx hf rfl
  clear hf
  (try simp only [RS.sets, List.setIfInBounds_toArray, List.set_cons_zero, List.set_cons_succ])
  go_upto_region 3 with (fail)
  refine RS.wp_textE [(11, .slice A n c), (12, .int .i64 ((n : Nat) : Int)), (13, .int .i64 ((0 : Nat) : Int))] (fun f w => w0 = w) (by kernel_rfl) (by kernel_rfl) (fun f hf => ?_) ?_ ?_
  · rfl
  · exact ⟨RS.StepE.pure 11 (by kernel_rfl) rfl (fun w => by kernel_rfl) (fun f w h => h),
      RS.StepE.pure 12 (by kernel_rfl) rfl (fun w => by kernel_rfl) (fun f w h => h),
      RS.StepE.pure 13 (by kernel_rfl) rfl (fun w => by kernel_rfl) (fun f w h => h), trivial⟩
  rintro f wx hf rfl
  clear hf
  (try simp only [RS.sets, List.setIfInBounds_toArray, List.set_cons_zero, List.set_cons_succ])
  go_upto_region 4 with (fail)
  go_loopw [13] (fun t wr => ∃ i : Nat, i ≤ n ∧ t = .int .i64 (i : Int) ∧ Below w0.heap.size w0 wr) (fun t _ => ((n : Int) - intOf t).toNat)
  case atStart => exact ⟨0, Nat.zero_le _, rfl, Below.refl _ _⟩
  case round =>
    obtain ⟨i, hi, rfl, hb⟩ := hrel
    have HB := Aside0.mk hb
    clear hb
    by_cases hin : i < n
    · go_upto_region 4 with (fail)
      refine RS.wp_textE [(14, .bool true)] (fun f w => wr = w) (by kernel_rfl) (by kernel_rfl) (fun f hf => ?_) ?_ ?_
      · rfl
      · exact ⟨RS.StepE.load 14 (.bool true) (by kernel_rfl) (by kernel_rfl) rfl (fun f w h => h) (fun f w p1 p2 h => n_lss (a := i) (b := n) (r := true) (decide_eq_true (show i < n from by omega)) rfl (by kernel_rfl) (by kernel_rfl)), trivial⟩
      rintro f wx hf rfl
      clear hf
      (try simp only [RS.sets, List.setIfInBounds_toArray, List.set_cons_zero, List.set_cons_succ])
      go_upto_region 5 with (fail)
      refine RS.wp_textE [(15, .int .i64 ((i : Nat) : Int)), (5, .int .i64 ((i : Nat) : Int))] (fun f w => wr = w) (by kernel_rfl) (by kernel_rfl) (fun f hf => ?_) ?_ ?_
      · rfl
      · exact ⟨RS.StepE.pure 15 (by kernel_rfl) rfl (fun w => by kernel_rfl) (fun f w h => h),
          RS.StepE.pure 5 (by kernel_rfl) rfl (fun w => by kernel_rfl) (fun f w h => h), trivial⟩
      rintro f wx hf rfl
      clear hf
      (try simp only [RS.sets, List.setIfInBounds_toArray, List.set_cons_zero, List.set_cons_succ])
      obtain ⟨ad, ea, -⟩ := el38 HC.out HN.out i hin
      obtain ⟨bd, eb, -⟩ := el38 HD.out HM.out i hin
      subst ea
      subst eb
      obtain ⟨x, hx⟩ : ∃ x, C.getD i z38 = x := ⟨_, rfl⟩
      obtain ⟨y, hy⟩ : ∃ y, D.getD i z38 = y := ⟨_, rfl⟩
      have HX := Aside0.mk hx
      have HY := Aside0.mk hy
      have HE := Aside0.mk (show (!(eqS x y)) = false by rw [← hx, ← hy, HALL.out i hin]; rfl)
      clear hx hy
      go_upto_region 6 with (fail)
      refine RS.wp_events (by kernel_rfl) [(16, .slice (some ad) n c), (17, .int .i64 ((i : Nat) : Int)), (18, .pointer (some (ad.add (i * 4)))), (19, .agg (encS x)), (20, .slice (some bd) n d), (21, .int .i64 ((i : Nat) : Int)), (22, .pointer (some (bd.add (i * 4)))), (23, .agg (encS y)), (24, .bool false)] (fun f wq => Below wr.heap.size wr wq) (by kernel_rfl) (by kernel_rfl) (fun f hf => ?_) ?_ ?_
      · exact bY_ (Below.refl _ _)
      · exact ⟨RS.StepE.pure 16 (by kernel_rfl) rfl (fun w => by kernel_rfl) (fun f w h => h),
          RS.StepE.pure 17 (by kernel_rfl) rfl (fun w => by kernel_rfl) (fun f w h => h),
          RS.StepE.load 18 (.pointer (some (ad.add (i * 4)))) (by kernel_rfl) (by kernel_rfl) rfl (fun f w h => h) (fun f wq p1 p2 h => idx33 (n := n) (c := c) (i := i) hin rfl (by kernel_rfl) (by kernel_rfl)),
          RS.StepE.load 19 (.agg (encS x)) (by kernel_rfl) (by kernel_rfl) rfl (fun f w h => h) (fun f wq p1 p2 h => load38 HX.out (Kd.C_below HC.out (below_step HB.out h)) HN.out hin rfl (by kernel_rfl)),
          RS.StepE.pure 20 (by kernel_rfl) rfl (fun w => by kernel_rfl) (fun f w h => h),
          RS.StepE.pure 21 (by kernel_rfl) rfl (fun w => by kernel_rfl) (fun f w h => h),
          RS.StepE.load 22 (.pointer (some (bd.add (i * 4)))) (by kernel_rfl) (by kernel_rfl) rfl (fun f w h => h) (fun f wq p1 p2 h => idx33 (n := n) (c := d) (i := i) hin rfl (by kernel_rfl) (by kernel_rfl)),
          RS.StepE.load 23 (.agg (encS y)) (by kernel_rfl) (by kernel_rfl) rfl (fun f w h => h) (fun f wq p1 p2 h => load38 HY.out (Kd.C_below HD.out (below_step HB.out h)) HM.out hin rfl (by kernel_rfl)),
          RS.StepE.load 24 (.bool false) (by kernel_rfl) (by kernel_rfl) rfl (fun f w h => h) (fun f wq p1 p2 h => (s_neq38 (a := x) (b := y) rfl (by kernel_rfl) (by kernel_rfl)).trans (by rw [HE.out])), trivial⟩
      rintro f w2 hf hs
      have HB2 := Aside0.mk (below_step HB.out hs)
      clear hf hs
      (try simp only [RS.sets, List.setIfInBounds_toArray, List.set_cons_zero, List.set_cons_succ])
      go_wp2_with fail
      exact ⟨⟨i + 1, by omega, by go_num, HB2.out⟩, by simp [intOf]; omega⟩
    · have hie : i = n := by omega
      subst hie
      go_upto_region 4 with (fail)
      refine RS.wp_textE [(14, .bool false)] (fun f w => wr = w) (by kernel_rfl) (by kernel_rfl) (fun f hf => ?_) ?_ ?_
      · rfl
      · exact ⟨RS.StepE.load 14 (.bool false) (by kernel_rfl) (by kernel_rfl) rfl (fun f w h => h) (fun f w p1 p2 h => n_lss (a := i) (b := i) (r := false) (decide_eq_false (show ¬ (i < i) from by omega)) rfl (by kernel_rfl) (by kernel_rfl)), trivial⟩
      rintro f wx hf rfl
      clear hf
      (try simp only [RS.sets, List.setIfInBounds_toArray, List.set_cons_zero, List.set_cons_succ])
      go_wp2_with fail
      go_ret
      exact ⟨rfl, HB.out⟩
set_option maxHeartbeats 8000000 in
set_option maxRecDepth 100000 in
theorem same_self (A : Option Addr) (c n : Nat) (C : List S38) (w0 : World) (hC : Kd.C k38 w0 A C.length C) (hn : C.length = n) (h5 : n ≤ 10000) :
    Calls Try.prog 13 #[.slice A n c, .slice A n c] w0 fun e w' => e = .returned (.bool true) ∧ Below w0.heap.size w0 w' := by
  have HC := Aside0.mk hC
  have HN := Aside0.mk hn
  clear hC hn
  go_enter Try.func13, Try.ntmps13
  go_wp2_with (go_at_call 26; refine (equal_true A A c c n C C _ HC.out HC.out HN.out HN.out h5 (fun i _ => eqS_refl _)).mono ?_; rintro e w' ⟨rfl, hb⟩; have HB := Aside0.mk hb; clear hb)
  go_ret
  exact ⟨rfl, HB.out⟩
end Go.Proofs.Ytgdhciilobnelaa.B
