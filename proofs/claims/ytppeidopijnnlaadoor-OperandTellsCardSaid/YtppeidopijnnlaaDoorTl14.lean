/- The reference's Take says the same as the program's. -/
import Derived.Test.YtppeidopijnnlaaDoorTl12
import Derived.Test.YtppeidopijnnlaaDoorTl13
import Derived.Test.YtppeidopijnnlaaDoorTl10
namespace Go.Proofs.YtppeidopijnnlaaDoor.C
open Go.RowKit Go.Proofs.YtppeidopijnnlaaDoorW.PrintWords Go.Proofs.YtppeidopijnnlaaDoorW.PrintLast Go.Proofs.YtppeidopijnnlaaDoorW.PrintMore Go.RF
set_option linter.unusedVariables false
set_option linter.unusedSimpArgs false
theorem or_u32 (a b : Int) (i : Nat) (hi : i ≤ 32) (hb : b % 2 ^ i = 0) (hb0 : 0 ≤ b) (hb1 : b < 4294967296) (ha0 : 0 ≤ a) (ha : a < 2 ^ i) : Go.bits .or .u32 a b = a + b := by
  have hw : ∀ n : Int, 0 ≤ n → n < 2 ^ 32 → IntKind.u32.wrap n = n := fun n h0 h1 => by rw [IntKind.wrap_u32]; omega
  have ha1 : a < 2 ^ 32 := Int.lt_of_lt_of_le ha (by exact_mod_cast Nat.pow_le_pow_right (by decide) hi)
  have hj := bits_join .u32 32 (by decide) hw i b a hb0 hb (by omega) ha0 ha ha1
  obtain ⟨x, rfl⟩ := Int.eq_ofNat_of_zero_le ha0
  obtain ⟨y, rfl⟩ := Int.eq_ofNat_of_zero_le hb0
  have h1 := (bits_nat .u32 32 (by decide) hw x y (by exact_mod_cast ha1) (by omega)).2
  have h2 := (bits_nat .u32 32 (by decide) hw y x (by omega) (by exact_mod_cast ha1)).2
  rw [h1, Nat.or_comm, ← h2, hj]
  omega
theorem num1 (k : Nat) (l : List Int) : r8_number.f k l 1 = if (l.length : Int) < 1 then some (0, false) else some (B.dispOf 1 (l.take 1), true) := by
  unfold r8_number.f
  by_cases h : (l.length : Int) < 1
  · rw [if_pos h, if_pos h]
  · rw [if_neg h, if_neg h, if_pos rfl, if_pos (by omega)]
    cases l with
    | nil => simp at h
    | cons x t => rfl
theorem shl0 (x : Int) (h0 : 0 ≤ x) (h : x < 256) : shl .u32 (x % 4294967296) (IntKind.u64.wrap (wrap64 (8 * 0))) = x := by
  have e : IntKind.u64.wrap (wrap64 (8 * 0)) = 0 := by decide +kernel
  rw [e]
  unfold shl
  rw [IntKind.wrap_u32]
  simp
  omega
theorem shl1 (x : Int) (h0 : 0 ≤ x) (h : x < 256) : shl .u32 (x % 4294967296) (IntKind.u64.wrap (wrap64 (8 * 1))) = x * 256 := by
  have e : IntKind.u64.wrap (wrap64 (8 * 1)) = 8 := by decide +kernel
  rw [e]
  show IntKind.u32.wrap (x % 4294967296 * 2 ^ 8) = _
  rw [IntKind.wrap_u32]
  omega
theorem shl2 (x : Int) (h0 : 0 ≤ x) (h : x < 256) : shl .u32 (x % 4294967296) (IntKind.u64.wrap (wrap64 (8 * 2))) = x * 65536 := by
  have e : IntKind.u64.wrap (wrap64 (8 * 2)) = 16 := by decide +kernel
  rw [e]
  show IntKind.u32.wrap (x % 4294967296 * 2 ^ 16) = _
  rw [IntKind.wrap_u32]
  omega
theorem shl3 (x : Int) (h0 : 0 ≤ x) (h : x < 256) : shl .u32 (x % 4294967296) (IntKind.u64.wrap (wrap64 (8 * 3))) = x * 16777216 := by
  have e : IntKind.u64.wrap (wrap64 (8 * 3)) = 24 := by decide +kernel
  rw [e]
  show IntKind.u32.wrap (x % 4294967296 * 2 ^ 24) = _
  rw [IntKind.wrap_u32]
  omega
theorem num4_go (k : Nat) (x0 x1 x2 x3 : Int) (t : List Int) (h0 : 0 ≤ x0 ∧ x0 < 256) (h1 : 0 ≤ x1 ∧ x1 < 256) (h2 : 0 ≤ x2 ∧ x2 < 256) (h3 : 0 ≤ x3 ∧ x3 < 256) :
    r8_number.l0 (k + 5) (x0 :: x1 :: x2 :: x3 :: t) 4 0 0 = some (wrap64 (wrap32 (x0 + x1 * 256 + x2 * 65536 + x3 * 16777216)), true) := by
  have hl : ((x0 :: x1 :: x2 :: x3 :: t).length : Int) = t.length + 4 := by simp; omega
  have r0 : rd (x0 :: x1 :: x2 :: x3 :: t) 0 = x0 := rfl
  have r1 : rd (x0 :: x1 :: x2 :: x3 :: t) 1 = x1 := rfl
  have r2 : rd (x0 :: x1 :: x2 :: x3 :: t) 2 = x2 := rfl
  have r3 : rd (x0 :: x1 :: x2 :: x3 :: t) 3 = x3 := rfl
  have w0 : wrap64 (0 + 1) = 1 := by decide +kernel
  have w1 : wrap64 (1 + 1) = 2 := by decide +kernel
  have w2 : wrap64 (2 + 1) = 3 := by decide +kernel
  have w3 : wrap64 (3 + 1) = 4 := by decide +kernel
  have p0 : 0 ≤ IntKind.u64.wrap (wrap64 (8 * 0)) := by decide +kernel
  have p1 : 0 ≤ IntKind.u64.wrap (wrap64 (8 * 1)) := by decide +kernel
  have p2 : 0 ≤ IntKind.u64.wrap (wrap64 (8 * 2)) := by decide +kernel
  have p3 : 0 ≤ IntKind.u64.wrap (wrap64 (8 * 3)) := by decide +kernel
  have o0 : Go.bits .or .u32 0 x0 = x0 := by rw [or_u32 0 x0 0 (by decide) (by omega) h0.1 (by omega) (by decide) (by decide)]; omega
  have o1 := or_u32 x0 (x1 * 256) 8 (by decide) (by omega) (by omega) (by omega) h0.1 (by omega)
  have o2 := or_u32 (x0 + x1 * 256) (x2 * 65536) 16 (by decide) (by omega) (by omega) (by omega) (by omega) (by omega)
  have o3 := or_u32 (x0 + x1 * 256 + x2 * 65536) (x3 * 16777216) 24 (by decide) (by omega) (by omega) (by omega) (by omega) (by omega)
  rw [r8_number.l0, if_pos (by decide), if_pos (by decide), if_pos (by rw [hl]; omega), if_pos p0, r0, shl0 x0 h0.1 h0.2, o0, w0]
  rw [r8_number.l0, if_pos (by decide), if_pos (by decide), if_pos (by rw [hl]; omega), if_pos p1, r1, shl1 x1 h1.1 h1.2, o1, w1]
  rw [r8_number.l0, if_pos (by decide), if_pos (by decide), if_pos (by rw [hl]; omega), if_pos p2, r2, shl2 x2 h2.1 h2.2, o2, w2]
  rw [r8_number.l0, if_pos (by decide), if_pos (by decide), if_pos (by rw [hl]; omega), if_pos p3, r3, shl3 x3 h3.1 h3.2, o3, w3]
  rw [r8_number.l0, if_neg (by decide)]
theorem num4 (k : Nat) (l : List Int) (hl : ∀ y ∈ l, 0 ≤ y ∧ y < 256) : r8_number.f (k + 5) l 4 = if (l.length : Int) < 4 then some (0, false) else some (B.dispOf 4 (l.take 4), true) := by
  unfold r8_number.f
  by_cases h : (l.length : Int) < 4
  · rw [if_pos h, if_pos h]
  · rw [if_neg h, if_neg h, if_neg (by decide)]
    match l, h, hl with
    | x0 :: x1 :: x2 :: x3 :: t, _, hl =>
      have h0 := hl x0 (by simp)
      have h1 := hl x1 (by simp)
      have h2 := hl x2 (by simp)
      have h3 := hl x3 (by simp)
      rw [num4_go k x0 x1 x2 x3 t h0 h1 h2 h3]
      have e : List.take 4 (x0 :: x1 :: x2 :: x3 :: t) = [x0, x1, x2, x3] := rfl
      rw [e, B.disp4 x0 x1 x2 x3 h0 h1 h2 h3]
      congr 2
      unfold wrap64 wrap32
      omega
    | [], h, _ => simp at h
    | [_], h, _ => simp at h
    | [_, _], h, _ => simp at h
    | [_, _, _], h, _ => simp at h
theorem tj2 (m : Nat) (l : List Int) (hl : ∀ y ∈ l, 0 ≤ y ∧ y < 256) (rex u W : Int) (hu : u = 1 ∨ u = 2) (hW : W = 0 ∨ W = 1 ∨ W = 4) (hul : u ≤ l.length) (k R base idx sc : Int) (rip : Bool) :
    r8_Take.j2 (m + 6) l (l.getD 0 0 / 8 % 8 + B.mo (rex / 4)) u W k R base idx sc 0 rip 0 = some (B.takeRest l rex u W k R base idx sc rip) := by
  have hd : ∀ y ∈ l.drop u.toNat, 0 ≤ y ∧ y < 256 := fun y hy => hl y (List.mem_of_mem_drop hy)
  have hlen : ((l.drop u.toNat).length : Int) = l.length - u := by rw [List.length_drop]; omega
  have hw : wrap64 (u + W) = u + W := by unfold wrap64; omega
  rw [r8_Take.j2, hw]
  unfold B.takeRest
  rcases hW with rfl | rfl | rfl
  · rw [if_neg (by decide), if_neg (by omega)]
    rfl
  · rw [if_pos (by decide), if_pos (by omega), if_pos hul, num1]
    by_cases hn : ((l.drop u.toNat).length : Int) < 1
    · rw [if_pos hn, if_pos (by omega)]
      rfl
    · rw [if_neg hn, if_neg (by omega)]
      rfl
  · rw [if_pos (by decide), if_pos (by omega), if_pos hul, num4 _ _ hd]
    by_cases hn : ((l.drop u.toNat).length : Int) < 4
    · rw [if_pos hn, if_pos (by omega)]
      rfl
    · rw [if_neg hn, if_neg (by omega)]
      rfl
theorem sum_mo (b a : Int) (h0 : 0 ≤ b) (h1 : b < 256) (ha : 0 ≤ a ∧ a < 256) : wrap64 (wrap64 (Go.bits .and .u8 b 7) + wrap64 (wrap64 (Go.bits .and .u8 a 1) * 8)) = b % 8 + B.mo a := by
  have hm := mo_in a ha.1 ha.2
  show wrap64 (wrap64 (Go.bits .and .u8 b 7) + B.mo a) = _
  rw [B.and7 b h0 h1]
  unfold wrap64
  omega
theorem wrap_and7 (b : Int) (h0 : 0 ≤ b) (h1 : b < 256) : wrap64 (Go.bits .and .u8 b 7) = b % 8 := by
  rw [B.and7 b h0 h1]
  unfold wrap64
  omega
theorem shl_one (s : Int) (h0 : 0 ≤ s) (h1 : s < 4) : 0 ≤ IntKind.u64.wrap s ∧ shl .i64 1 (IntKind.u64.wrap s) = 2 ^ s.toNat := by
  have : s = 0 ∨ s = 1 ∨ s = 2 ∨ s = 3 := by omega
  rcases this with rfl | rfl | rfl | rfl <;> exact ⟨by decide +kernel, by decide +kernel⟩
theorem refTake_j1 (m : Nat) (l : List Int) (hl : ∀ y ∈ l, 0 ≤ y ∧ y < 256) (hn : l.length ≠ 0) (rex : Int) (h0 : 0 ≤ rex) (h1 : rex < 256) (h3 : l.getD 0 0 / 64 ≠ 3) :
    r8_Take.j1 (m + 7) l rex (l.getD 0 0 / 64) (l.getD 0 0 % 8) (l.getD 0 0 / 8 % 8 + B.mo (rex / 4)) 1 (B.wid (l.getD 0 0 / 64)) 2 0 (l.getD 0 0 % 8 + B.mo rex) (-1) 1 0 false 0 = some (B.takeF l rex) := by
  have hb := B.getD_range l hl 0
  have hb1 := B.getD_range l hl 1
  have r1 : rd l 1 = l.getD 1 0 := rfl
  have s1 := sum_mo (l.getD 1 0) rex hb1.1 hb1.2 ⟨h0, h1⟩
  have s2 := sum_mo (l.getD 1 0 / 8) (rex / 2) (by omega) (by omega) (by omega)
  have a7 := B.and7 (l.getD 1 0) hb1.1 hb1.2
  have sh := shl_one (l.getD 1 0 / 64) (by omega) (by omega)
  have hWd : B.wid (l.getD 0 0 / 64) = 0 ∨ B.wid (l.getD 0 0 / 64) = 1 ∨ B.wid (l.getD 0 0 / 64) = 4 := by
    unfold B.wid
    split
    · exact .inr (.inl rfl)
    · split
      · exact .inr (.inr rfl)
      · exact .inl rfl
  have h1l : (1 : Int) ≤ l.length := by omega
  rw [r8_Take.j1, r1, s1, s2, a7, sh.2]
  unfold B.takeF
  rw [if_neg hn]
  simp only
  rw [if_neg h3]
  by_cases h4 : l.getD 0 0 % 8 = 4
  · rw [if_pos h4, if_pos h4]
    by_cases h2 : l.length < 2
    · rw [if_pos h2, if_pos (by omega)]
      rfl
    rw [if_neg h2, if_neg (by omega), if_pos (by omega)]
    have h2l : (2 : Int) ≤ l.length := by omega
    by_cases hx : l.getD 1 0 / 8 % 8 + B.mo (rex / 2) = 4
    · rw [if_pos hx, if_pos hx, if_pos hx]
      by_cases c5 : l.getD 1 0 % 8 = 5
      · rw [if_pos c5]
        by_cases c0 : l.getD 0 0 / 64 = 0
        · rw [if_pos c0, if_pos ⟨c5, c0⟩]
          exact tj2 m l hl rex 2 4 (.inr rfl) (by decide) h2l _ _ _ _ _ _
        · rw [if_neg c0, if_neg (fun h => c0 h.2)]
          exact tj2 m l hl rex 2 _ (.inr rfl) hWd h2l _ _ _ _ _ _
      · rw [if_neg c5, if_neg (fun h => c5 h.1)]
        exact tj2 m l hl rex 2 _ (.inr rfl) hWd h2l _ _ _ _ _ _
    · rw [if_neg hx, if_neg hx, if_neg hx, if_pos sh.1]
      by_cases c5 : l.getD 1 0 % 8 = 5
      · rw [if_pos c5]
        by_cases c0 : l.getD 0 0 / 64 = 0
        · rw [if_pos c0, if_pos ⟨c5, c0⟩]
          exact tj2 m l hl rex 2 4 (.inr rfl) (by decide) h2l _ _ _ _ _ _
        · rw [if_neg c0, if_neg (fun h => c0 h.2)]
          exact tj2 m l hl rex 2 _ (.inr rfl) hWd h2l _ _ _ _ _ _
      · rw [if_neg c5, if_neg (fun h => c5 h.1)]
        exact tj2 m l hl rex 2 _ (.inr rfl) hWd h2l _ _ _ _ _ _
  · rw [if_neg h4, if_neg h4]
    by_cases c5 : l.getD 0 0 % 8 = 5
    · rw [if_pos c5]
      by_cases c0 : l.getD 0 0 / 64 = 0
      · rw [if_pos c0, if_pos ⟨c5, c0⟩]
        exact tj2 m l hl rex 1 4 (.inl rfl) (by decide) h1l _ _ _ _ _ _
      · rw [if_neg c0, if_neg (fun h => c0 h.2)]
        exact tj2 m l hl rex 1 _ (.inl rfl) hWd h1l _ _ _ _ _ _
    · rw [if_neg c5, if_neg (fun h => c5 h.1)]
      exact tj2 m l hl rex 1 _ (.inl rfl) hWd h1l _ _ _ _ _ _
theorem refTake (m : Nat) (l : List Int) (hl : ∀ y ∈ l, 0 ≤ y ∧ y < 256) (rex : Int) (h0 : 0 ≤ rex) (h1 : rex < 256) : r8_Take.f (m + 8) l rex = some (B.takeF l rex) := by
  have hb := B.getD_range l hl 0
  have r0 : rd l 0 = l.getD 0 0 := rfl
  have s1 := sum_mo (l.getD 0 0) rex hb.1 hb.2 ⟨h0, h1⟩
  have s2 := sum_mo (l.getD 0 0 / 8) (rex / 4) (by omega) (by omega) (by omega)
  have w7 := wrap_and7 (l.getD 0 0) hb.1 hb.2
  have hm := mo_in rex h0 h1
  unfold r8_Take.f
  rw [r0, s1, s2, w7]
  by_cases hn : l.length = 0
  · rw [if_pos (by omega)]
    unfold B.takeF
    rw [if_pos hn]
    rfl
  rw [if_neg (by omega), if_pos (by omega)]
  by_cases h3 : l.getD 0 0 / 64 = 3
  · rw [if_pos h3]
    unfold B.takeF
    rw [if_neg hn]
    simp only
    rw [if_pos h3, h3]
    unfold B.takeRest
    rw [if_neg (show ¬ (l.length : Int) < 1 + B.wid 3 by show ¬ (l.length : Int) < 1 + 0; omega)]
    simp only [r8_Reg.f, Option.bind_some]
    rfl
  · rw [if_neg h3]
    have hmx : mx (l.getD 0 0 % 8 + B.mo rex) (-1) = l.getD 0 0 % 8 + B.mo rex := by unfold mx; rw [if_neg (by omega)]
    have J := refTake_j1 m l hl hn rex h0 h1 h3
    simp only [r8_Mem.f, Option.bind_some, hmx]
    by_cases c1 : l.getD 0 0 / 64 = 1
    · rw [if_pos c1, r8_Take.j0, if_neg (by omega)]
      have e : B.wid (l.getD 0 0 / 64) = 1 := by unfold B.wid; rw [if_pos c1]
      rw [e] at J
      exact J
    · rw [if_neg c1, r8_Take.j0]
      by_cases c2 : l.getD 0 0 / 64 = 2
      · rw [if_pos c2]
        have e : B.wid (l.getD 0 0 / 64) = 4 := by unfold B.wid; rw [if_neg c1, if_pos c2]
        rw [e] at J
        exact J
      · rw [if_neg c2]
        have e : B.wid (l.getD 0 0 / 64) = 0 := by unfold B.wid; rw [if_neg c1, if_neg c2]
        rw [e] at J
        exact J
end Go.Proofs.YtppeidopijnnlaaDoor.C
namespace Go.Proofs.YtppeidopijnnlaaDoor.C
open Go.RowKit Go.Proofs.YtppeidopijnnlaaDoorW.PrintWords Go.Proofs.YtppeidopijnnlaaDoorW.PrintLast Go.Proofs.YtppeidopijnnlaaDoorW.PrintMore
attribute [local go_sem] max2_int min2_int max_two min_two max_three min_three max_four min_four   -- for this text's walks alone
set_option linter.unusedVariables false
set_option linter.unusedSimpArgs false
noncomputable def r8_shown.l0 : Nat → Int → Int → List Int → Int → Option (List Int)
  | 0, _, _, _, _ => none
  | k + 1, x0, x1, x5, x6 => if x6 < x1 then (if 0 ≤ (IntKind.u64.wrap (wrap64 (8 * x6))) then (if x5.length < 140737488355328 then (r8_shown.l0 k x0 x1 (x5 ++ [(shr .u64 (IntKind.u64.wrap (x0)) (IntKind.u64.wrap (wrap64 (8 * x6)))) % 256]) (wrap64 (x6 + 1))) else (none)) else (none)) else (some x5)
noncomputable def r8_shown.f (k : Nat) (a0 : Int) (a1 : Int) : Option (List Int) := r8_shown.l0 k a0 a1 ([] : List Int) 0
set_option maxHeartbeats 8000000 in
set_option maxRecDepth 100000 in
theorem r8_shown.calls (k : Nat) (a0 : Int) (a1 : Int) (r : List Int) (w : World) (h : r8_shown.f k a0 a1 = some r) :
    Calls Tryd.prog 31 #[.int .i64 a0, .int .i64 a1] w fun e w' => ∃ v0_ : Value, e = .returned (v0_) ∧ Kd.R (Kd.int .u8) 5 w' w.heap.size (fun _ => True) v0_ r ∧ Below w.heap.size w w' := by
  have HB := Aside0.mk (Below.refl w.heap.size w)
  have H : (r8_shown.l0 k a0 a1 ([] : List Int) 0) = some r := h
  clear h
  have H' := Aside0.mk H
  clear H
  go_enter Tryd.func31, Tryd.ntmps31
  go_wp2
  go_loopg [5, 6] k (fun kq v5 v6 w' => ∃ (x5_1 : List Int) (x6_1 : Int), v6 = .int .i64 x6_1 ∧ Aside0 (r8_shown.l0 kq a0 a1 x5_1 x6_1 = some r) ∧ Aside0 (kq ≤ k) ∧ Aside0 (Kd.R (Kd.int .u8) 5 w' w.heap.size (fun _ => True) v5 x5_1) ∧ Aside0 (Below w.heap.size w w'))
  case atStart => exact ⟨(([] : List Int)), (0), (by first | rfl | (simp; done) | (simp [*]; done)), H', ⟨Nat.le_refl _⟩, ⟨by first | exact Kd.R_nil _ _ _ _ _ | exact Kd.N_nil _ _ _ _ _ | exact Kd.V_nil _ _ _ _ _ | exact Kd.Q_nil _ _ _ _ _ | exact Kd.S_nil _ _ _ _ _⟩, ⟨by repeat (first | (with_reducible first | exact HB.out | apply bX_ | apply bW_ | apply bY_) | exact HB.out)⟩⟩
  case round =>
    clear H'
    (try clear p2)
    obtain ⟨x5_1, x6_1, rfl, HA, HK1, HO_5, HB⟩ := hrel
    cases gk with
    | zero => exact absurd HA.out (by simp [r8_shown.l0])
    | succ k1 =>
      have H := HA.out
      clear HA
      simp only [r8_shown.l0] at H
      by_cases c3 : x6_1 < a1
      · rw [if_pos c3] at H
        have c3b0 : decide (x6_1 < a1) = true := decide_eq_true c3
        clear c3
        obtain ⟨ji4, hji4⟩ : ∃ j_ : Int, (IntKind.u64.wrap (wrap64 (8 * x6_1))) = j_ := ⟨_, rfl⟩
        replace H : (if 0 ≤ (ji4) then (if x5_1.length < 140737488355328 then (r8_shown.l0 k1 a0 a1 (x5_1 ++ [(shr .u64 (IntKind.u64.wrap (a0)) (ji4)) % 256]) (wrap64 (x6_1 + 1))) else (none)) else (none)) = some r := by first | (rw [hji4] at H; exact H) | (simp only [hji4] at H ⊢; exact H)
        by_cases c5 : 0 ≤ (ji4)
        · rw [if_pos c5] at H
          have c5b0 := eq_true c5
          have c5b1 : decide (0 ≤ (ji4)) = true := decide_eq_true c5
          clear c5
          obtain ⟨ji6, hji6⟩ : ∃ j_ : Int, (shr .u64 (IntKind.u64.wrap (a0)) (ji4)) = j_ := ⟨_, rfl⟩
          replace H : (if x5_1.length < 140737488355328 then (r8_shown.l0 k1 a0 a1 (x5_1 ++ [(ji6) % 256]) (wrap64 (x6_1 + 1))) else (none)) = some r := by first | (rw [hji6] at H; exact H) | (simp only [hji6] at H ⊢; exact H)
          have hji6_ : ((IntKind.u64.wrap (a0)) / 2 ^ min (ji4).toNat 64) = ji6 := hji6
          have hji6z : (ji4) ≤ 64 → ((IntKind.u64.wrap (a0)) / 2 ^ (ji4).toNat) = ji6 := shr_small hji6
          by_cases c7 : x5_1.length < 140737488355328
          · rw [if_pos c7] at H
            have LMc7 := Aside0.mk c7
            clear c7
            obtain ⟨y204, hy204⟩ : ∃ y_ : List Int, y_ = (x5_1 ++ [(ji6) % 256]) := ⟨_, rfl⟩
            replace H : (r8_shown.l0 k1 a0 a1 y204 (wrap64 (x6_1 + 1))) = some r := by first | (rw [hy204]; with_reducible exact H) | (have H2_ := (Option.bind_some _ _).symm.trans H; rw [hy204]; with_reducible exact H2_) | (have H2_ := (Option.bind_some _ _).symm.trans H; with_reducible exact H2_) | with_reducible exact H | (rw [hy204]; exact H) | exact H
            have Ny204 := Aside0.mk hy204
            clear hy204
            have H' := Aside0.mk H
            clear H
            go_wp2_with (first | ((with_reducible refine gate_builtin (b := .append) (xs := #[.tmp 12, .tmp 20]) rfl ?_); at_builtin; refine Kd.R_append (Kd.int .u8) (w0 := w) w.heap.size rfl (.tmp 12) (.tmp 20) 24 5 (.int .u8 0) 1 rfl Tryd.underlying24 info5 rfl (by decide) (by omega) u5 x5_1 ((ji6) % 256) [.int .u8 ((ji6) % 256)] (fun _ => True) (fun _ => False) rfl rfl ?aP (fun _ hk => hk.elim) ?aF ?aO ?aB ?aS ?aL ?_; (case aP => exact rfl); (case aB => exact (by repeat (first | (with_reducible first | exact HB.out | apply bX_ | apply bW_ | apply bY_) | exact HB.out))); (case aF => exact (fun _ _ => trivial)); (case aO => exact (by (with_reducible repeat (first | apply Kd.R_alloc | apply Kd.R_drewN | apply Kd.R_drew)); exact HO_5.out)); (case aS => exact (below_size (by repeat (first | (with_reducible first | exact HB.out | apply bX_ | apply bW_ | apply bY_) | exact HB.out)))); (case aL => have := LMc7.out; omega); intro v205 w8 ho hb hg hat; rw [← Ny204.out] at ho; have n0_ := Aside0.mk (hb); have n1_ := Aside0.mk (ho); clear HB; clear HO_5; have HB := n0_; have HO206 := n1_; clear n0_ n1_; clear ho hb hg hat))
            go_roundg k1
            case measure => have := HK1.out; omega
            case rel => exact ⟨(y204), (wrap64 (x6_1 + 1)), (by first | rfl | (simp; done) | (simp [*]; done)), H', ⟨by have := HK1.out; omega⟩, ⟨by (with_reducible repeat (first | apply Kd.R_alloc | apply Kd.R_drewN | apply Kd.R_drew)); exact HO206.out⟩, ⟨by repeat (first | (with_reducible first | exact HB.out | apply bX_ | apply bW_ | apply bY_) | exact HB.out)⟩⟩
          · rw [if_neg c7] at H
            exact absurd H (by simp)
        · rw [if_neg c5] at H
          exact absurd H (by simp)
      · rw [if_neg c3] at H
        have c3b0 : decide (x6_1 < a1) = false := decide_eq_false c3
        clear c3
        obtain rfl := Option.some.inj H
        go_wp2
        go_ret
        exact ⟨_, by first | rfl | (simp [errW_none, errW_some] <;> rfl) | (simp [*, errW_none, errW_some] <;> rfl), by (with_reducible repeat (first | apply Kd.R_alloc | apply Kd.R_drewN | apply Kd.R_drew)); exact HO_5.out, by repeat (first | (with_reducible first | exact HB.out | apply bX_ | apply bW_ | apply bY_) | exact HB.out)⟩
end Go.Proofs.YtppeidopijnnlaaDoor.C
