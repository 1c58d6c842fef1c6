/- What the package header tells, as functions of lists alone; each kept shut, with its equation. Headers as lists of bytes: what is put is taken again. -/
import Derived.Test.YtopldeeojehklaaDoorYq10
namespace Go.Proofs.YtopldeeojehklaaDoor.B
open Go.RowKit Go.Proofs.YtopldeeojehklaaDoorW.PrintWords Go.Proofs.YtopldeeojehklaaDoorW.PrintLast Go.Proofs.YtopldeeojehklaaDoorW.PrintMore Go.RF
set_option linter.unusedVariables false
set_option linter.unusedSimpArgs false
instance (l : List Int) : Decidable (BB l) := by unfold BB; exact inferInstance
theorem R_of_own {k : IntKind} {e : Nat} {W : World} {base : Nat} {v : Value} {xs : List Int} (h : W.ownsRow base e 1 v xs.length (nums k xs)) : Kd.R (Kd.int k) e W base (fun _ => True) v xs :=
  ⟨fun _ _ => trivial, nums k xs, h, by simp [nums, Kd.int, Kd.scalar], fun j p hj => by
    show ((nums k xs).drop (j * 1)).take 1 = [Value.int k p]
    rw [Nat.mul_one]
    have hjl := (List.getElem?_eq_some_iff.1 hj).1
    rw [List.drop_eq_getElem_cons (by simpa [nums] using hjl)]
    simp [nums, (List.getElem?_eq_some_iff.1 hj).2]⟩
def segT (x : S30) (e : Int) : Int × Int × Int × Int × Int × Int × Int × Int := (x.f0, x.f1, x.f2, x.f3, x.f4, x.f5, x.f6, e)
def secT (x : S32) (e : Int) : Int × Int × Int × Int × Int × Int := (x.f0, x.f1, x.f2, x.f3, x.f4, e)
def takeSegP (l : List Int) : Int × Int × Int × Int × Int × Int × Int × Int := if l.length < 56 then (0, 0, 0, 0, 0, 0, 0, 30) else segT (segV l) 0
def takeSecP (l : List Int) : Int × Int × Int × Int × Int × Int := if l.length < 64 then (0, 0, 0, 0, 0, 30) else secT (secV l) 0
def headP (a0 a1 a2 : Int) (n3 n4 : Nat) : List Int := mustP (splice (laidL 64 placesF [a0, a1, a2, IntKind.u64.wrap (n3 : Int), IntKind.u64.wrap (n4 : Int), 56, 64] 7) 0 elfS) 8
def segP (a0 a1 a2 a3 a4 a5 a6 : Int) : List Int := laidL 56 segF [IntKind.u64.wrap a0, IntKind.u64.wrap a1, a2, a3, a4, a5, a6] 7
def secP (a0 a1 a2 a3 a4 : Int) : List Int := laidL 64 secF [IntKind.u64.wrap a0, a1, a2, IntKind.u64.wrap a3, a4] 5
theorem G.TakeSegment_ex : ∃ f : List Int → Option (Int × Int × Int × Int × Int × Int × Int × Int), f = fun l => if BB l ∧ l.length ≤ 1000000 then some (takeSegP l) else none := ⟨_, rfl⟩
noncomputable def G.TakeSegment : List Int → Option (Int × Int × Int × Int × Int × Int × Int × Int) := Classical.choose G.TakeSegment_ex
theorem G.TakeSegment_eq (l : List Int) : G.TakeSegment l = if BB l ∧ l.length ≤ 1000000 then some (takeSegP l) else none := congrFun (Classical.choose_spec G.TakeSegment_ex) l
theorem G.TakeSection_ex : ∃ f : List Int → Option (Int × Int × Int × Int × Int × Int), f = fun l => if BB l ∧ l.length ≤ 1000000 then some (takeSecP l) else none := ⟨_, rfl⟩
noncomputable def G.TakeSection : List Int → Option (Int × Int × Int × Int × Int × Int) := Classical.choose G.TakeSection_ex
theorem G.TakeSection_eq (l : List Int) : G.TakeSection l = if BB l ∧ l.length ≤ 1000000 then some (takeSecP l) else none := congrFun (Classical.choose_spec G.TakeSection_ex) l
theorem G.Read_ex : ∃ f : List Int → Option (Int × Int × Int × (List (S30)) × (List (S32)) × Int), f = fun l => if BB l then some (readP l) else none := ⟨_, rfl⟩
noncomputable def G.Read : List Int → Option (Int × Int × Int × (List (S30)) × (List (S32)) × Int) := Classical.choose G.Read_ex
theorem G.Read_eq (l : List Int) : G.Read l = if BB l then some (readP l) else none := congrFun (Classical.choose_spec G.Read_ex) l
theorem G.Head_ex : ∃ f : Int → Int → Int → List (S30) → List (S32) → Option (List Int), f = fun a0 a1 a2 l3 l4 => some (headP a0 a1 a2 l3.length l4.length) := ⟨_, rfl⟩
noncomputable def G.Head : Int → Int → Int → List (S30) → List (S32) → Option (List Int) := Classical.choose G.Head_ex
theorem G.Head_eq (a0 a1 a2 : Int) (l3 : List S30) (l4 : List S32) : G.Head a0 a1 a2 l3 l4 = some (headP a0 a1 a2 l3.length l4.length) := by
  have := Classical.choose_spec G.Head_ex
  exact congrFun (congrFun (congrFun (congrFun (congrFun this a0) a1) a2) l3) l4
theorem G.Segment_ex : ∃ f : Int → Int → Int → Int → Int → Int → Int → Option (List Int), f = fun a0 a1 a2 a3 a4 a5 a6 => some (segP a0 a1 a2 a3 a4 a5 a6) := ⟨_, rfl⟩
noncomputable def G.Segment : Int → Int → Int → Int → Int → Int → Int → Option (List Int) := Classical.choose G.Segment_ex
theorem G.Segment_eq (a0 a1 a2 a3 a4 a5 a6 : Int) : G.Segment a0 a1 a2 a3 a4 a5 a6 = some (segP a0 a1 a2 a3 a4 a5 a6) := by
  have := Classical.choose_spec G.Segment_ex
  exact congrFun (congrFun (congrFun (congrFun (congrFun (congrFun (congrFun this a0) a1) a2) a3) a4) a5) a6
theorem G.Section_ex : ∃ f : Int → Int → Int → Int → Int → Option (List Int), f = fun a0 a1 a2 a3 a4 => some (secP a0 a1 a2 a3 a4) := ⟨_, rfl⟩
noncomputable def G.Section : Int → Int → Int → Int → Int → Option (List Int) := Classical.choose G.Section_ex
theorem G.Section_eq (a0 a1 a2 a3 a4 : Int) : G.Section a0 a1 a2 a3 a4 = some (secP a0 a1 a2 a3 a4) := by
  have := Classical.choose_spec G.Section_ex
  exact congrFun (congrFun (congrFun (congrFun (congrFun this a0) a1) a2) a3) a4
theorem own_of {b : Nat} {v : Value} {L : List Int} {w : World} (h : Rw b v L w) : Kd.R (Kd.int .u8) 5 w b (fun _ => True) v L := R_of_own h.own
theorem G.Segment_calls (a0_0 : Int) (a0_1 : Int) (a0_2 : Int) (a0_3 : Int) (a0_4 : Int) (a0_5 : Int) (a0_6 : Int) (r : List Int) (w : World) (hT_ : Tab w) (h : G.Segment a0_0 a0_1 a0_2 a0_3 a0_4 a0_5 a0_6 = some r) :
    Calls Tryd.prog 16 #[.agg #[.int .u32 a0_0, .int .u32 a0_1, .int .u64 a0_2, .int .u64 a0_3, .int .u64 a0_4, .int .u64 a0_5, .int .u64 a0_6]] w fun e w' => ∃ v0_ : Value, e = .returned (v0_) ∧ Kd.R (Kd.int .u8) 5 w' w.heap.size (fun _ => True) v0_ r ∧ Below w.heap.size w w' := by
  rw [G.Segment_eq] at h
  obtain rfl := Option.some.inj h
  refine (segment_calls a0_0 a0_1 a0_2 a0_3 a0_4 a0_5 a0_6 w hT_).mono ?_
  rintro e w' ⟨v, rfl, hr, hb⟩
  exact ⟨v, rfl, own_of hr, hb⟩
theorem G.Section_calls (a0_0 : Int) (a0_1 : Int) (a0_2 : Int) (a0_3 : Int) (a0_4 : Int) (r : List Int) (w : World) (hT_ : Tab w) (h : G.Section a0_0 a0_1 a0_2 a0_3 a0_4 = some r) :
    Calls Tryd.prog 18 #[.agg #[.int .u32 a0_0, .int .u64 a0_1, .int .u64 a0_2, .int .u32 a0_3, .int .u64 a0_4]] w fun e w' => ∃ v0_ : Value, e = .returned (v0_) ∧ Kd.R (Kd.int .u8) 5 w' w.heap.size (fun _ => True) v0_ r ∧ Below w.heap.size w w' := by
  rw [G.Section_eq] at h
  obtain rfl := Option.some.inj h
  refine (section_calls a0_0 a0_1 a0_2 a0_3 a0_4 w hT_).mono ?_
  rintro e w' ⟨v, rfl, hr, hb⟩
  exact ⟨v, rfl, own_of hr, hb⟩
theorem G.Head_calls (a0_0 : Int) (a0_1 : Int) (a0_2 : Int) (A0_3 : Option Addr) (c0_3 : Nat) (l0_3 : List (S30)) (A0_4 : Option Addr) (c0_4 : Nat) (l0_4 : List (S32)) (r : List Int) (w : World) (hr0_3 : Kd.C k30 w A0_3 l0_3.length l0_3) (hc0_3 : l0_3.length ≤ c0_3) (hr0_4 : Kd.C k32 w A0_4 l0_4.length l0_4) (hc0_4 : l0_4.length ≤ c0_4) (hT_ : Tab w) (h : G.Head a0_0 a0_1 a0_2 l0_3 l0_4 = some r) :
    Calls Tryd.prog 14 #[.agg #[.int .u64 a0_0, .int .u64 a0_1, .int .u64 a0_2, .slice A0_3 l0_3.length c0_3, .slice A0_4 l0_4.length c0_4]] w fun e w' => ∃ v0_ : Value, e = .returned (v0_) ∧ Kd.R (Kd.int .u8) 5 w' w.heap.size (fun _ => True) v0_ r ∧ Below w.heap.size w w' := by
  rw [G.Head_eq] at h
  obtain rfl := Option.some.inj h
  refine (head1_calls a0_0 a0_1 a0_2 A0_3 A0_4 l0_3 l0_4 c0_3 c0_4 w hT_).mono ?_
  rintro e w' ⟨v, rfl, hr, hb⟩
  exact ⟨v, rfl, own_of hr, hb⟩
theorem G.TakeSegment_calls (A0 : Option Addr) (c0 : Nat) (l0 : List Int) (r1 : Int) (r2 : Int) (r3 : Int) (r4 : Int) (r5 : Int) (r6 : Int) (r7 : Int) (r8 : Int) (w : World) (hr0 : Kd.C (Kd.int .u8) w A0 l0.length l0) (hc0 : l0.length ≤ c0) (hT_ : Tab w) (h : G.TakeSegment l0 = some (r1, r2, r3, r4, r5, r6, r7, r8)) :
    Calls Tryd.prog 20 #[.slice A0 l0.length c0] w fun e w' => e = .returned (.tuple #[.agg #[.int .u32 r1, .int .u32 r2, .int .u64 r3, .int .u64 r4, .int .u64 r5, .int .u64 r6, .int .u64 r7], .int .i64 r8]) ∧ Below w.heap.size w w' := by
  rw [G.TakeSegment_eq] at h
  split at h
  · rename_i hg
    have h := Option.some.inj h
    unfold takeSegP at h
    split at h
    · rename_i hl
      cases h
      exact segment_short A0 l0.length c0 w hl
    · rename_i hl
      unfold segT at h
      obtain ⟨ad, rfl, hx⟩ := C_row8 hr0 (by omega)
      cases h
      exact segment_long ad c0 l0 _ _ _ _ _ _ _ rfl w hT_ hx hg.1 hc0 (by omega) hg.2
  · cases h
theorem G.TakeSection_calls (A0 : Option Addr) (c0 : Nat) (l0 : List Int) (r1 : Int) (r2 : Int) (r3 : Int) (r4 : Int) (r5 : Int) (r6 : Int) (w : World) (hr0 : Kd.C (Kd.int .u8) w A0 l0.length l0) (hc0 : l0.length ≤ c0) (hT_ : Tab w) (h : G.TakeSection l0 = some (r1, r2, r3, r4, r5, r6)) :
    Calls Tryd.prog 22 #[.slice A0 l0.length c0] w fun e w' => e = .returned (.tuple #[.agg #[.int .u32 r1, .int .u64 r2, .int .u64 r3, .int .u32 r4, .int .u64 r5], .int .i64 r6]) ∧ Below w.heap.size w w' := by
  rw [G.TakeSection_eq] at h
  split at h
  · rename_i hg
    have h := Option.some.inj h
    unfold takeSecP at h
    split at h
    · rename_i hl
      cases h
      exact section_short A0 l0.length c0 w hl
    · rename_i hl
      unfold secT at h
      obtain ⟨ad, rfl, hx⟩ := C_row8 hr0 (by omega)
      cases h
      exact section_long ad c0 l0 _ _ _ _ _ rfl w hT_ hx hg.1 hc0 (by omega) hg.2
  · cases h
theorem bad_e {n fr many sz : Nat} (h : badP n fr many sz) : eachE n fr many sz = 33 := by unfold eachE; rw [if_pos h]
theorem bad_n {n fr many sz : Nat} (h : ¬ badP n fr many sz) : eachE n fr many sz = 0 := by unfold eachE; rw [if_neg h]
theorem none_of {e : Ending} {w w' : World} {k : Int} (h : e = .returned (.tuple #[.agg #[.int .u64 0, .int .u64 0, .int .u64 0, .slice none 0 0, .slice none 0 0], .int .i64 k]) ∧ Below w.heap.size w w') :
    ∃ v3_ v4_ : Value, e = .returned (.tuple #[.agg #[.int .u64 0, .int .u64 0, .int .u64 0, v3_, v4_], .int .i64 k]) ∧ Kd.R k30 30 w' w.heap.size (fun _ => True) v3_ [] ∧ Kd.R k32 32 w' w.heap.size (fun _ => True) v4_ [] ∧ Below w.heap.size w w' :=
  ⟨_, _, h.1, Kd.R_nil _ _ _ _ _, Kd.R_nil _ _ _ _ _, h.2⟩
theorem G.Read_calls (A0 : Option Addr) (c0 : Nat) (l0 : List Int) (r1 : Int) (r2 : Int) (r3 : Int) (r4 : List (S30)) (r5 : List (S32)) (r6 : Int) (w : World) (hr0 : Kd.C (Kd.int .u8) w A0 l0.length l0) (hc0 : l0.length ≤ c0) (hT_ : Tab w) (h : G.Read l0 = some (r1, r2, r3, r4, r5, r6)) :
    Calls Tryd.prog 10 #[.slice A0 l0.length c0] w fun e w' => ∃ v3_ v4_ : Value, e = .returned (.tuple #[.agg #[.int .u64 r1, .int .u64 r2, .int .u64 r3, v3_, v4_], .int .i64 r6]) ∧ Kd.R k30 30 w' w.heap.size (fun _ => True) v3_ r4 ∧ Kd.R k32 32 w' w.heap.size (fun _ => True) v4_ r5 ∧ Below w.heap.size w w' := by
  rw [G.Read_eq] at h
  split at h
  · rename_i hb
    have h := Option.some.inj h
    unfold readP at h
    by_cases h1 : 131072 < l0.length
    · rw [if_pos h1] at h
      cases h
      exact (read_big A0 l0.length c0 w h1).mono fun e w' k => none_of k
    rw [if_neg h1] at h
    by_cases h2 : l0.length < 64
    · rw [if_pos h2] at h
      cases h
      exact (read_less A0 l0.length c0 w h2).mono fun e w' k => none_of k
    rw [if_neg h2] at h
    obtain ⟨ad, rfl, hx⟩ := C_row8 hr0 (by omega)
    by_cases h3 : l0.take 4 = elfS
    · rw [if_neg (fun k => k h3)] at h
      cases hr : rightP l0 with
      | false =>
        rw [if_pos hr] at h
        cases h
        exact (read_kind ad l0.length c0 l0 w hT_ hx hb rfl hc0 (by omega) (by omega) h3 hr).mono fun e w' k => none_of k
      | true =>
        rw [if_neg (by rw [hr]; decide)] at h
        by_cases b1 : badP l0.length (pl l0 1).toNat (pl l0 3).toNat 56
        · rw [if_pos (.inl b1)] at h
          cases h
          by_cases b2 : badP l0.length (pl l0 2).toNat (pl l0 4).toNat 64
          · exact (read_p1 ad l0.length c0 l0 w hT_ hx hb rfl hc0 (by omega) (by omega) h3 hr (bad_e b1) (bad_e b2)).mono fun e w' k => none_of k
          · exact (read_p2 ad l0.length c0 l0 w hT_ hx hb rfl hc0 (by omega) (by omega) h3 hr (bad_e b1) (bad_n b2)).mono fun e w' k => none_of k
        · by_cases b2 : badP l0.length (pl l0 2).toNat (pl l0 4).toNat 64
          · rw [if_pos (.inr b2)] at h
            cases h
            exact (read_p3 ad l0.length c0 l0 w hT_ hx hb rfl hc0 (by omega) (by omega) h3 hr (bad_n b1) (bad_e b2)).mono fun e w' k => none_of k
          · rw [if_neg (fun k => k.elim b1 b2)] at h
            cases h
            refine (read_ok ad l0.length c0 l0 w hT_ hx hb rfl hc0 (by omega) (by omega) h3 hr (bad_n b1) (bad_n b2)).mono ?_
            unfold segsB secsB
            rw [if_neg b1, if_neg b2]
            intro e w' k
            exact k
    · rw [if_pos h3] at h
      cases h
      exact (read_magic ad l0.length c0 l0 w hT_ hx hb rfl hc0 (by omega) (by omega) h3).mono fun e w' k => none_of k
  · cases h
end Go.Proofs.YtopldeeojehklaaDoor.B
namespace Go.Proofs.YtopldeeojehklaaDoor.B
open Go.RowKit Go.Proofs.YtopldeeojehklaaDoorW.PrintWords Go.RF
set_option linter.unusedVariables false
set_option linter.unusedSimpArgs false
theorem byteN_rg (x : Int) (i : Nat) : 0 ≤ byteN x i ∧ byteN x i < 256 := by
  unfold byteN
  exact ⟨Int.emod_nonneg _ (by decide), Int.emod_lt_of_pos _ (by decide)⟩
theorem bytesN_BB (x : Int) (n : Nat) : BB (bytesN x n) := by
  intro y hy
  unfold bytesN at hy
  obtain ⟨i, _, rfl⟩ := List.mem_map.1 hy
  exact byteN_rg x i
theorem emod_mul' (m p : Nat) : (m : Int) % (p : Int) + (m : Int) / (p : Int) % 256 * (p : Int) = (m : Int) % ((p : Int) * 256) := by
  have h := Nat.mod_mul (x := m) (a := p) (b := 256)
  have h2 : ((m % (p * 256) : Nat) : Int) = ((m % p + p * (m / p % 256) : Nat) : Int) := by rw [h]
  simp only [Int.natCast_add, Int.natCast_mul, Int.natCast_emod, Int.natCast_ediv] at h2
  rw [Int.mul_comm ((m : Int) / (p : Int) % 256)]
  exact h2.symm
theorem numLE_bytesN (x : Int) (h0 : 0 ≤ x) : ∀ n, numLE (bytesN x n) = x % 2 ^ (8 * n)
  | 0 => by simp [bytesN, numLE]
  | n + 1 => by
    rw [bytesN_succ, numLE_append, numLE_bytesN x h0 n, bytesN_length, pow256]
    unfold byteN
    rw [show 8 * (n + 1) = 8 * n + 8 by omega, Int.pow_add, show (2 : Int) ^ 8 = 256 by decide]
    obtain ⟨m, rfl⟩ : ∃ m : Nat, x = m := ⟨x.toNat, by omega⟩
    have e : (2 : Int) ^ (8 * n) = ((2 ^ (8 * n) : Nat) : Int) := by rw [Int.natCast_pow]; rfl
    rw [e]
    exact emod_mul' m _
theorem num_back {x : Int} {n : Nat} (h0 : 0 ≤ x) (h1 : x < 2 ^ (8 * n)) : numLE (bytesN x n) = x := by
  rw [numLE_bytesN x h0 n, Int.emod_eq_of_lt h0 h1]
def b2 (x : Int) : List Int := [byteN x 0, byteN x 1]
def b4 (x : Int) : List Int := [byteN x 0, byteN x 1, byteN x 2, byteN x 3]
def b8 (x : Int) : List Int := [byteN x 0, byteN x 1, byteN x 2, byteN x 3, byteN x 4, byteN x 5, byteN x 6, byteN x 7]
theorem segP_list (a0 a1 a2 a3 a4 a5 a6 : Int) : segP a0 a1 a2 a3 a4 a5 a6 = b4 (IntKind.u64.wrap a0) ++ (b4 (IntKind.u64.wrap a1) ++ (b8 a2 ++ (b8 a3 ++ ([0, 0, 0, 0, 0, 0, 0, 0] ++ (b8 a4 ++ (b8 a5 ++ b8 a6)))))) := by kernel_rfl
theorem secP_list (a0 a1 a2 a3 a4 : Int) : secP a0 a1 a2 a3 a4 = [0, 0, 0, 0] ++ (b4 (IntKind.u64.wrap a0) ++ ([0, 0, 0, 0, 0, 0, 0, 0, 0, 0, 0, 0, 0, 0, 0, 0] ++ (b8 a1 ++ (b8 a2 ++ (b4 (IntKind.u64.wrap a3) ++ ([0, 0, 0, 0, 0, 0, 0, 0, 0, 0, 0, 0] ++ b8 a4)))))) := by kernel_rfl
theorem headP_list (a0 a1 a2 : Int) (n m : Nat) : headP a0 a1 a2 n m = [127, 69, 76, 70, 2, 1, 1, 0, 0, 0, 0, 0, 0, 0, 0, 0, 2, 0, 62, 0, 1, 0, 0, 0] ++ (b8 a0 ++ (b8 a1 ++ (b8 a2 ++ ([0, 0, 0, 0, 64, 0, 56, 0] ++ (b2 (IntKind.u64.wrap (n : Int)) ++ ([64, 0] ++ (b2 (IntKind.u64.wrap (m : Int)) ++ [0, 0]))))))) := by kernel_rfl
theorem wakes_read : readP (headP 7 0 0 0 0) = (7, 0, 0, [], [], 0) := by kernel_rfl
theorem num_b2 {x : Int} (h0 : 0 ≤ x) (h1 : x < 65536) : numLE (b2 x) = x := num_back (n := 2) h0 (by simpa using h1)
theorem num_b4 {x : Int} (h0 : 0 ≤ x) (h1 : x < 4294967296) : numLE (b4 x) = x := num_back (n := 4) h0 (by simpa using h1)
theorem num_b8 {x : Int} (h : Rg x) : numLE (b8 x) = x := num_back (n := 8) h.1 (by have := h.2; simpa using this)
def G32 (x : Int) : Prop := 0 ≤ x ∧ x < 4294967296
def GoodSeg (x : S30) : Prop := G32 x.f0 ∧ G32 x.f1 ∧ Rg x.f2 ∧ Rg x.f3 ∧ Rg x.f4 ∧ Rg x.f5 ∧ Rg x.f6
def GoodSec (x : S32) : Prop := G32 x.f0 ∧ Rg x.f1 ∧ Rg x.f2 ∧ G32 x.f3 ∧ Rg x.f4
def segB (x : S30) : List Int := segP x.f0 x.f1 x.f2 x.f3 x.f4 x.f5 x.f6
def secB (x : S32) : List Int := secP x.f0 x.f1 x.f2 x.f3 x.f4
theorem wrap32 {x : Int} (h : G32 x) : IntKind.u32.wrap x = x := by
  rw [IntKind.wrap_u32]; have := h.1; have := h.2; omega
theorem wrap64' {x : Int} (h : G32 x) : IntKind.u64.wrap x = x := wrapU h.1 (by have := h.2; omega)
theorem segV_segB (x : S30) (h : GoodSeg x) (r : List Int) : segV (segB x ++ r) = x := by
  obtain ⟨h0, h1, h2, h3, h4, h5, h6⟩ := h
  have e0 : fieldN (segB x ++ r) (0, 4) = numLE (b4 (IntKind.u64.wrap x.f0)) := by unfold segB; rw [segP_list]; rfl
  have e1 : fieldN (segB x ++ r) (4, 4) = numLE (b4 (IntKind.u64.wrap x.f1)) := by unfold segB; rw [segP_list]; rfl
  have e2 : fieldN (segB x ++ r) (8, 8) = numLE (b8 x.f2) := by unfold segB; rw [segP_list]; rfl
  have e3 : fieldN (segB x ++ r) (16, 8) = numLE (b8 x.f3) := by unfold segB; rw [segP_list]; rfl
  have e4 : fieldN (segB x ++ r) (32, 8) = numLE (b8 x.f4) := by unfold segB; rw [segP_list]; rfl
  have e5 : fieldN (segB x ++ r) (40, 8) = numLE (b8 x.f5) := by unfold segB; rw [segP_list]; rfl
  have e6 : fieldN (segB x ++ r) (48, 8) = numLE (b8 x.f6) := by unfold segB; rw [segP_list]; rfl
  unfold segV
  rw [e0, e1, e2, e3, e4, e5, e6, wrap64' h0, wrap64' h1, num_b4 h0.1 h0.2, num_b4 h1.1 h1.2, num_b8 h2, num_b8 h3, num_b8 h4, num_b8 h5, num_b8 h6, wrap32 h0, wrap32 h1]
theorem secV_secB (x : S32) (h : GoodSec x) (r : List Int) : secV (secB x ++ r) = x := by
  obtain ⟨h0, h1, h2, h3, h4⟩ := h
  have e0 : fieldN (secB x ++ r) (4, 4) = numLE (b4 (IntKind.u64.wrap x.f0)) := by unfold secB; rw [secP_list]; rfl
  have e1 : fieldN (secB x ++ r) (24, 8) = numLE (b8 x.f1) := by unfold secB; rw [secP_list]; rfl
  have e2 : fieldN (secB x ++ r) (32, 8) = numLE (b8 x.f2) := by unfold secB; rw [secP_list]; rfl
  have e3 : fieldN (secB x ++ r) (40, 4) = numLE (b4 (IntKind.u64.wrap x.f3)) := by unfold secB; rw [secP_list]; rfl
  have e4 : fieldN (secB x ++ r) (56, 8) = numLE (b8 x.f4) := by unfold secB; rw [secP_list]; rfl
  unfold secV
  rw [e0, e1, e2, e3, e4, wrap64' h0, wrap64' h3, num_b4 h0.1 h0.2, num_b4 h3.1 h3.2, num_b8 h1, num_b8 h2, num_b8 h4, wrap32 h0, wrap32 h3]
theorem segB_len (x : S30) : (segB x).length = 56 := by unfold segB; rw [segP_list]; rfl
theorem secB_len (x : S32) : (secB x).length = 64 := by unfold secB; rw [secP_list]; rfl
def objP (a0 a1 a2 : Int) (S : List S30) (C : List S32) (r : List Int) : List Int := headP a0 a1 a2 S.length C.length ++ ((S.map segB).flatten ++ ((C.map secB).flatten ++ r))
theorem head_len (a0 a1 a2 : Int) (n m : Nat) : (headP a0 a1 a2 n m).length = 64 := by rw [headP_list]; rfl
theorem flat_seg_len : ∀ S : List S30, ((S.map segB).flatten).length = 56 * S.length
  | [] => rfl
  | x :: r => by simp only [List.map_cons, List.flatten_cons, List.length_append, segB_len, flat_seg_len r, List.length_cons]; omega
theorem flat_sec_len : ∀ S : List S32, ((S.map secB).flatten).length = 64 * S.length
  | [] => rfl
  | x :: r => by simp only [List.map_cons, List.flatten_cons, List.length_append, secB_len, flat_sec_len r, List.length_cons]; omega
theorem obj_len (a0 a1 a2 : Int) (S : List S30) (C : List S32) (r : List Int) : (objP a0 a1 a2 S C r).length = 64 + 56 * S.length + 64 * C.length + r.length := by
  unfold objP
  rw [List.length_append, List.length_append, List.length_append, head_len, flat_seg_len, flat_sec_len]; omega
theorem pl_obj (a0 a1 a2 : Int) (n m : Nat) (h0 : Rg a0) (h1 : Rg a1) (h2 : Rg a2) (hn : n < 65536) (hm : m < 65536) (r : List Int) :
    pl (headP a0 a1 a2 n m ++ r) 0 = a0 ∧ pl (headP a0 a1 a2 n m ++ r) 1 = a1 ∧ pl (headP a0 a1 a2 n m ++ r) 2 = a2 ∧ pl (headP a0 a1 a2 n m ++ r) 3 = n ∧ pl (headP a0 a1 a2 n m ++ r) 4 = m ∧ pl (headP a0 a1 a2 n m ++ r) 5 = 56 ∧ pl (headP a0 a1 a2 n m ++ r) 6 = 64 := by
  have e0 : pl (headP a0 a1 a2 n m ++ r) 0 = numLE (b8 a0) := by rw [headP_list]; rfl
  have e1 : pl (headP a0 a1 a2 n m ++ r) 1 = numLE (b8 a1) := by rw [headP_list]; rfl
  have e2 : pl (headP a0 a1 a2 n m ++ r) 2 = numLE (b8 a2) := by rw [headP_list]; rfl
  have e3 : pl (headP a0 a1 a2 n m ++ r) 3 = numLE (b2 (IntKind.u64.wrap (n : Int))) := by rw [headP_list]; rfl
  have e4 : pl (headP a0 a1 a2 n m ++ r) 4 = numLE (b2 (IntKind.u64.wrap (m : Int))) := by rw [headP_list]; rfl
  have e5 : pl (headP a0 a1 a2 n m ++ r) 5 = 56 := by rw [headP_list]; rfl
  have e6 : pl (headP a0 a1 a2 n m ++ r) 6 = 64 := by rw [headP_list]; rfl
  rw [e0, e1, e2, e3, e4, num_b8 h0, num_b8 h1, num_b8 h2, wrapU (by omega) (by omega), wrapU (by omega) (by omega), num_b2 (by omega) (by omega), num_b2 (by omega) (by omega)]
  exact ⟨rfl, rfl, rfl, rfl, rfl, e5, e6⟩
theorem head_elf (a0 a1 a2 : Int) (n m : Nat) (r : List Int) : (headP a0 a1 a2 n m ++ r).take 4 = elfS := by rw [headP_list]; rfl
theorem head_must (a0 a1 a2 : Int) (n m : Nat) (r : List Int) : mustOk (headP a0 a1 a2 n m ++ r) 8 = true := by rw [headP_list]; rfl
theorem drop_head (a0 a1 a2 : Int) (n m : Nat) (r : List Int) (k : Nat) : (headP a0 a1 a2 n m ++ r).drop (64 + k) = r.drop k := by
  rw [List.drop_append, head_len, List.drop_of_length_le (by rw [head_len]; omega), List.nil_append]
  congr 1
  omega
theorem segs_flat : ∀ (S : List S30) (r : List Int), (∀ x ∈ S, GoodSeg x) → (List.range S.length).map (fun i => segV (((S.map segB).flatten ++ r).drop (56 * i))) = S
  | [], _, _ => rfl
  | x :: S, r, h => by
    rw [List.length_cons, List.range_succ_eq_map, List.map_cons, List.map_map]
    have e0 : ((x :: S).map segB).flatten ++ r = segB x ++ ((S.map segB).flatten ++ r) := by simp
    rw [e0]
    congr 1
    · rw [Nat.mul_zero, List.drop_zero]
      exact segV_segB x (h x List.mem_cons_self) _
    · conv => rhs; rw [← segs_flat S r (fun y hy => h y (List.mem_cons_of_mem _ hy))]
      refine List.map_congr_left fun i hi => ?_
      show segV ((segB x ++ ((S.map segB).flatten ++ r)).drop (56 * (i + 1))) = _
      rw [List.drop_append, segB_len, List.drop_of_length_le (by rw [segB_len]; omega), List.nil_append, show 56 * (i + 1) - 56 = 56 * i by omega]
theorem secs_flat : ∀ (S : List S32) (r : List Int), (∀ x ∈ S, GoodSec x) → (List.range S.length).map (fun i => secV (((S.map secB).flatten ++ r).drop (64 * i))) = S
  | [], _, _ => rfl
  | x :: S, r, h => by
    rw [List.length_cons, List.range_succ_eq_map, List.map_cons, List.map_map]
    have e0 : ((x :: S).map secB).flatten ++ r = secB x ++ ((S.map secB).flatten ++ r) := by simp
    rw [e0]
    congr 1
    · rw [Nat.mul_zero, List.drop_zero]
      exact secV_secB x (h x List.mem_cons_self) _
    · conv => rhs; rw [← secs_flat S r (fun y hy => h y (List.mem_cons_of_mem _ hy))]
      refine List.map_congr_left fun i hi => ?_
      show secV ((secB x ++ ((S.map secB).flatten ++ r)).drop (64 * (i + 1))) = _
      rw [List.drop_append, secB_len, List.drop_of_length_le (by rw [secB_len]; omega), List.nil_append, show 64 * (i + 1) - 64 = 64 * i by omega]
theorem segs_obj (a0 a1 a2 : Int) (n m : Nat) (S : List S30) (r : List Int) (hS : ∀ x ∈ S, GoodSeg x) : segsP (headP a0 a1 a2 n m ++ ((S.map segB).flatten ++ r)) 64 S.length = S := by
  unfold segsP
  conv => rhs; rw [← segs_flat S r hS]
  refine List.map_congr_left fun i hi => ?_
  rw [drop_head]
theorem secs_obj (a0 a1 a2 : Int) (n m : Nat) (S : List S30) (C : List S32) (r : List Int) (hC : ∀ x ∈ C, GoodSec x) : secsP (headP a0 a1 a2 n m ++ ((S.map segB).flatten ++ ((C.map secB).flatten ++ r))) (64 + 56 * S.length) C.length = C := by
  unfold secsP
  conv => rhs; rw [← secs_flat C r hC]
  refine List.map_congr_left fun i hi => ?_
  rw [Nat.add_assoc, drop_head, List.drop_append, flat_seg_len, List.drop_of_length_le (by rw [flat_seg_len]; omega), List.nil_append, show 56 * S.length + 64 * i - 56 * S.length = 64 * i by omega]
theorem read_obj (a0 : Int) (S : List S30) (C : List S32) (r : List Int) (h0 : Rg a0) (hS : ∀ x ∈ S, GoodSeg x) (hC : ∀ x ∈ C, GoodSec x) (hn : S.length ≤ 16) (hm : C.length ≤ 32) (hr : r.length ≤ 100000) :
    readP (objP a0 64 (64 + 56 * (S.length : Int)) S C r) = (a0, 64, 64 + 56 * (S.length : Int), S, C, 0) := by
  have hl := obj_len a0 64 (64 + 56 * (S.length : Int)) S C r
  have hp := pl_obj a0 64 (64 + 56 * (S.length : Int)) S.length C.length h0 ⟨by decide, by decide⟩ ⟨by omega, by omega⟩ (by omega) (by omega) ((S.map segB).flatten ++ ((C.map secB).flatten ++ r))
  obtain ⟨p0, p1, p2, p3, p4, p5, p6⟩ := hp
  unfold readP
  have hO : objP a0 64 (64 + 56 * (S.length : Int)) S C r = headP a0 64 (64 + 56 * (S.length : Int)) S.length C.length ++ ((S.map segB).flatten ++ ((C.map secB).flatten ++ r)) := rfl
  have hr1 : rightP (objP a0 64 (64 + 56 * (S.length : Int)) S C r) = true := by
    unfold rightP
    rw [hO, p3, p4, p5, p6, head_must]
    unfold right0
    simp; omega
  rw [if_neg (by omega), if_neg (by omega), if_neg (by rw [hO, head_elf]; exact fun h => h rfl), if_neg (by rw [hr1]; decide), hO, p0, p1, p2, p3, p4, ← hO, hl]
  have t1 : (64 : Int).toNat = 64 := rfl
  have t2 : (64 + 56 * (S.length : Int)).toNat = 64 + 56 * S.length := by omega
  have t3 : ((S.length : Int)).toNat = S.length := by omega
  have t4 : ((C.length : Int)).toNat = C.length := by omega
  rw [t1, t2, t3, t4, if_neg (by unfold badP; omega)]
  have e1 := segs_obj a0 64 (64 + 56 * (S.length : Int)) S.length C.length S ((C.map secB).flatten ++ r) hS
  have e2 := secs_obj a0 64 (64 + 56 * (S.length : Int)) S.length C.length S C r hC
  rw [← hO] at e1 e2
  rw [e1, e2]
end Go.Proofs.YtopldeeojehklaaDoor.B
