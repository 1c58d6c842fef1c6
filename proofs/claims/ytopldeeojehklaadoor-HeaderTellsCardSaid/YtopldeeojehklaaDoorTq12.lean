/- What the package header tells, as functions of lists alone; each kept shut, with its equation. Headers as lists of bytes: what is put is taken again. -/
import Derived.Test.YtopldeeojehklaaDoorTq11
namespace Go.Proofs.YtopldeeojehklaaDoor.B
open Go.RowKit Go.Proofs.YtopldeeojehklaaDoorW.PrintWords Go.Proofs.YtopldeeojehklaaDoorW.PrintLast Go.Proofs.YtopldeeojehklaaDoorW.PrintMore Go.RF
set_option linter.unusedVariables false
set_option linter.unusedSimpArgs false
instance (l : List Int) : Decidable (BB l) := by unfold BB; exact inferInstance
theorem R_of_own {k : IntKind} {e : Nat} {W : World} {base : Nat} {v : Value} {xs : List Int} (h : W.ownsRow base e 1 v xs.length (nums k xs)) : Kd.R (Kd.int k) e W base (fun _ => True) v xs :=
  ⟨fun _ _ => trivial, nums k xs, h, by simp [nums, Kd.int, Kd.scalar], fun j p hj => by
    show ((nums k xs).drop (j * 1)).take 1 = [Value.int k p]
    rw [Nat.mul_one]
    have hjl := (List.getElem?_eq_some_iff.1 hj).1
    rw [List.drop_eq_getElem_cons (by simpa [nums] using hjl)]
    simp [nums, (List.getElem?_eq_some_iff.1 hj).2]⟩
def segT (x : S30) (e : Int) : Int × Int × Int × Int × Int × Int × Int × Int := (x.f0, x.f1, x.f2, x.f3, x.f4, x.f5, x.f6, e)
def secT (x : S32) (e : Int) : Int × Int × Int × Int × Int × Int := (x.f0, x.f1, x.f2, x.f3, x.f4, e)
def takeSegP (l : List Int) : Int × Int × Int × Int × Int × Int × Int × Int := if l.length < 56 then (0, 0, 0, 0, 0, 0, 0, 30) else segT (segV l) 0
def takeSecP (l : List Int) : Int × Int × Int × Int × Int × Int := if l.length < 64 then (0, 0, 0, 0, 0, 30) else secT (secV l) 0
def headP (a0 a1 a2 : Int) (n3 n4 : Nat) : List Int := mustP (splice (laidL 64 placesF [a0, a1, a2, IntKind.u64.wrap (n3 : Int), IntKind.u64.wrap (n4 : Int), 56, 64] 7) 0 elfS) 8
def segP (a0 a1 a2 a3 a4 a5 a6 : Int) : List Int := laidL 56 segF [IntKind.u64.wrap a0, IntKind.u64.wrap a1, a2, a3, a4, a5, a6] 7
def secP (a0 a1 a2 a3 a4 : Int) : List Int := laidL 64 secF [IntKind.u64.wrap a0, a1, a2, IntKind.u64.wrap a3, a4] 5
theorem G.TakeSegment_ex : ∃ f : List Int → Option (Int × Int × Int × Int × Int × Int × Int × Int), f = fun l => if BB l ∧ l.length ≤ 1000000 then some (takeSegP l) else none := ⟨_, rfl⟩
noncomputable def G.TakeSegment : List Int → Option (Int × Int × Int × Int × Int × Int × Int × Int) := Classical.choose G.TakeSegment_ex
theorem G.TakeSegment_eq (l : List Int) : G.TakeSegment l = if BB l ∧ l.length ≤ 1000000 then some (takeSegP l) else none := congrFun (Classical.choose_spec G.TakeSegment_ex) l
theorem G.TakeSection_ex : ∃ f : List Int → Option (Int × Int × Int × Int × Int × Int), f = fun l => if BB l ∧ l.length ≤ 1000000 then some (takeSecP l) else none := ⟨_, rfl⟩
noncomputable def G.TakeSection : List Int → Option (Int × Int × Int × Int × Int × Int) := Classical.choose G.TakeSection_ex
theorem G.TakeSection_eq (l : List Int) : G.TakeSection l = if BB l ∧ l.length ≤ 1000000 then some (takeSecP l) else none := congrFun (Classical.choose_spec G.TakeSection_ex) l
theorem G.Read_ex : ∃ f : List Int → Option (Int × Int × Int × (List (S30)) × (List (S32)) × Int), f = fun l => if BB l then some (readP l) else none := ⟨_, rfl⟩
noncomputable def G.Read : List Int → Option (Int × Int × Int × (List (S30)) × (List (S32)) × Int) := Classical.choose G.Read_ex
theorem G.Read_eq (l : List Int) : G.Read l = if BB l then some (readP l) else none := congrFun (Classical.choose_spec G.Read_ex) l
theorem G.Head_ex : ∃ f : Int → Int → Int → List (S30) → List (S32) → Option (List Int), f = fun a0 a1 a2 l3 l4 => some (headP a0 a1 a2 l3.length l4.length) := ⟨_, rfl⟩
noncomputable def G.Head : Int → Int → Int → List (S30) → List (S32) → Option (List Int) := Classical.choose G.Head_ex
theorem G.Head_eq (a0 a1 a2 : Int) (l3 : List S30) (l4 : List S32) : G.Head a0 a1 a2 l3 l4 = some (headP a0 a1 a2 l3.length l4.length) := by
  have := Classical.choose_spec G.Head_ex
  exact congrFun (congrFun (congrFun (congrFun (congrFun this a0) a1) a2) l3) l4
theorem G.Segment_ex : ∃ f : Int → Int → Int → Int → Int → Int → Int → Option (List Int), f = fun a0 a1 a2 a3 a4 a5 a6 => some (segP a0 a1 a2 a3 a4 a5 a6) := ⟨_, rfl⟩
noncomputable def G.Segment : Int → Int → Int → Int → Int → Int → Int → Option (List Int) := Classical.choose G.Segment_ex
theorem G.Segment_eq (a0 a1 a2 a3 a4 a5 a6 : Int) : G.Segment a0 a1 a2 a3 a4 a5 a6 = some (segP a0 a1 a2 a3 a4 a5 a6) := by
  have := Classical.choose_spec G.Segment_ex
  exact congrFun (congrFun (congrFun (congrFun (congrFun (congrFun (congrFun this a0) a1) a2) a3) a4) a5) a6
theorem G.Section_ex : ∃ f : Int → Int → Int → Int → Int → Option (List Int), f = fun a0 a1 a2 a3 a4 => some (secP a0 a1 a2 a3 a4) := ⟨_, rfl⟩
noncomputable def G.Section : Int → Int → Int → Int → Int → Option (List Int) := Classical.choose G.Section_ex
theorem G.Section_eq (a0 a1 a2 a3 a4 : Int) : G.Section a0 a1 a2 a3 a4 = some (secP a0 a1 a2 a3 a4) := by
  have := Classical.choose_spec G.Section_ex
  exact congrFun (congrFun (congrFun (congrFun (congrFun this a0) a1) a2) a3) a4
theorem own_of {b : Nat} {v : Value} {L : List Int} {w : World} (h : Rw b v L w) : Kd.R (Kd.int .u8) 5 w b (fun _ => True) v L := R_of_own h.own
theorem G.Segment_calls (a0_0 : Int) (a0_1 : Int) (a0_2 : Int) (a0_3 : Int) (a0_4 : Int) (a0_5 : Int) (a0_6 : Int) (r : List Int) (w : World) (hT_ : Tab w) (h : G.Segment a0_0 a0_1 a0_2 a0_3 a0_4 a0_5 a0_6 = some r) :
    Calls Tryd.prog 16 #[.agg #[.int .u32 a0_0, .int .u32 a0_1, .int .u64 a0_2, .int .u64 a0_3, .int .u64 a0_4, .int .u64 a0_5, .int .u64 a0_6]] w fun e w' => ∃ v0_ : Value, e = .returned (v0_) ∧ Kd.R (Kd.int .u8) 5 w' w.heap.size (fun _ => True) v0_ r ∧ Below w.heap.size w w' := by
  rw [G.Segment_eq] at h
  obtain rfl := Option.some.inj h
  refine (segment_calls a0_0 a0_1 a0_2 a0_3 a0_4 a0_5 a0_6 w hT_).mono ?_
  rintro e w' ⟨v, rfl, hr, hb⟩
  exact ⟨v, rfl, own_of hr, hb⟩
theorem G.Section_calls (a0_0 : Int) (a0_1 : Int) (a0_2 : Int) (a0_3 : Int) (a0_4 : Int) (r : List Int) (w : World) (hT_ : Tab w) (h : G.Section a0_0 a0_1 a0_2 a0_3 a0_4 = some r) :
    Calls Tryd.prog 18 #[.agg #[.int .u32 a0_0, .int .u64 a0_1, .int .u64 a0_2, .int .u32 a0_3, .int .u64 a0_4]] w fun e w' => ∃ v0_ : Value, e = .returned (v0_) ∧ Kd.R (Kd.int .u8) 5 w' w.heap.size (fun _ => True) v0_ r ∧ Below w.heap.size w w' := by
  rw [G.Section_eq] at h
  obtain rfl := Option.some.inj h
  refine (section_calls a0_0 a0_1 a0_2 a0_3 a0_4 w hT_).mono ?_
  rintro e w' ⟨v, rfl, hr, hb⟩
  exact ⟨v, rfl, own_of hr, hb⟩
theorem G.Head_calls (a0_0 : Int) (a0_1 : Int) (a0_2 : Int) (A0_3 : Option Addr) (c0_3 : Nat) (l0_3 : List (S30)) (A0_4 : Option Addr) (c0_4 : Nat) (l0_4 : List (S32)) (r : List Int) (w : World) (hr0_3 : Kd.C k30 w A0_3 l0_3.length l0_3) (hc0_3 : l0_3.length ≤ c0_3) (hr0_4 : Kd.C k32 w A0_4 l0_4.length l0_4) (hc0_4 : l0_4.length ≤ c0_4) (hT_ : Tab w) (h : G.Head a0_0 a0_1 a0_2 l0_3 l0_4 = some r) :
    Calls Tryd.prog 14 #[.agg #[.int .u64 a0_0, .int .u64 a0_1, .int .u64 a0_2, .slice A0_3 l0_3.length c0_3, .slice A0_4 l0_4.length c0_4]] w fun e w' => ∃ v0_ : Value, e = .returned (v0_) ∧ Kd.R (Kd.int .u8) 5 w' w.heap.size (fun _ => True) v0_ r ∧ Below w.heap.size w w' := by
  rw [G.Head_eq] at h
  obtain rfl := Option.some.inj h
  refine (head1_calls a0_0 a0_1 a0_2 A0_3 A0_4 l0_3 l0_4 c0_3 c0_4 w hT_).mono ?_
  rintro e w' ⟨v, rfl, hr, hb⟩
  exact ⟨v, rfl, own_of hr, hb⟩
theorem G.TakeSegment_calls (A0 : Option Addr) (c0 : Nat) (l0 : List Int) (r1 : Int) (r2 : Int) (r3 : Int) (r4 : Int) (r5 : Int) (r6 : Int) (r7 : Int) (r8 : Int) (w : World) (hr0 : Kd.C (Kd.int .u8) w A0 l0.length l0) (hc0 : l0.length ≤ c0) (hT_ : Tab w) (h : G.TakeSegment l0 = some (r1, r2, r3, r4, r5, r6, r7, r8)) :
    Calls Tryd.prog 20 #[.slice A0 l0.length c0] w fun e w' => e = .returned (.tuple #[.agg #[.int .u32 r1, .int .u32 r2, .int .u64 r3, .int .u64 r4, .int .u64 r5, .int .u64 r6, .int .u64 r7], .int .i64 r8]) ∧ Below w.heap.size w w' := by
  rw [G.TakeSegment_eq] at h
  split at h
  · rename_i hg
    have h := Option.some.inj h
    unfold takeSegP at h
    split at h
    · rename_i hl
      cases h
      exact segment_short A0 l0.length c0 w hl
    · rename_i hl
      unfold segT at h
      obtain ⟨ad, rfl, hx⟩ := C_row8 hr0 (by omega)
      cases h
      exact segment_long ad c0 l0 _ _ _ _ _ _ _ rfl w hT_ hx hg.1 hc0 (by omega) hg.2
  · cases h
theorem G.TakeSection_calls (A0 : Option Addr) (c0 : Nat) (l0 : List Int) (r1 : Int) (r2 : Int) (r3 : Int) (r4 : Int) (r5 : Int) (r6 : Int) (w : World) (hr0 : Kd.C (Kd.int .u8) w A0 l0.length l0) (hc0 : l0.length ≤ c0) (hT_ : Tab w) (h : G.TakeSection l0 = some (r1, r2, r3, r4, r5, r6)) :
    Calls Tryd.prog 22 #[.slice A0 l0.length c0] w fun e w' => e = .returned (.tuple #[.agg #[.int .u32 r1, .int .u64 r2, .int .u64 r3, .int .u32 r4, .int .u64 r5], .int .i64 r6]) ∧ Below w.heap.size w w' := by
  rw [G.TakeSection_eq] at h
  split at h
  · rename_i hg
    have h := Option.some.inj h
    unfold takeSecP at h
    split at h
    · rename_i hl
      cases h
      exact section_short A0 l0.length c0 w hl
    · rename_i hl
      unfold secT at h
      obtain ⟨ad, rfl, hx⟩ := C_row8 hr0 (by omega)
      cases h
      exact section_long ad c0 l0 _ _ _ _ _ rfl w hT_ hx hg.1 hc0 (by omega) hg.2
  · cases h
theorem bad_e {n fr many sz : Nat} (h : badP n fr many sz) : eachE n fr many sz = 33 := by unfold eachE; rw [if_pos h]
theorem bad_n {n fr many sz : Nat} (h : ¬ badP n fr many sz) : eachE n fr many sz = 0 := by unfold eachE; rw [if_neg h]
theorem none_of {e : Ending} {w w' : World} {k : Int} (h : e = .returned (.tuple #[.agg #[.int .u64 0, .int .u64 0, .int .u64 0, .slice none 0 0, .slice none 0 0], .int .i64 k]) ∧ Below w.heap.size w w') :
    ∃ v3_ v4_ : Value, e = .returned (.tuple #[.agg #[.int .u64 0, .int .u64 0, .int .u64 0, v3_, v4_], .int .i64 k]) ∧ Kd.R k30 30 w' w.heap.size (fun _ => True) v3_ [] ∧ Kd.R k32 32 w' w.heap.size (fun _ => True) v4_ [] ∧ Below w.heap.size w w' :=
  ⟨_, _, h.1, Kd.R_nil _ _ _ _ _, Kd.R_nil _ _ _ _ _, h.2⟩
theorem G.Read_calls (A0 : Option Addr) (c0 : Nat) (l0 : List Int) (r1 : Int) (r2 : Int) (r3 : Int) (r4 : List (S30)) (r5 : List (S32)) (r6 : Int) (w : World) (hr0 : Kd.C (Kd.int .u8) w A0 l0.length l0) (hc0 : l0.length ≤ c0) (hT_ : Tab w) (h : G.Read l0 = some (r1, r2, r3, r4, r5, r6)) :
    Calls Tryd.prog 10 #[.slice A0 l0.length c0] w fun e w' => ∃ v3_ v4_ : Value, e = .returned (.tuple #[.agg #[.int .u64 r1, .int .u64 r2, .int .u64 r3, v3_, v4_], .int .i64 r6]) ∧ Kd.R k30 30 w' w.heap.size (fun _ => True) v3_ r4 ∧ Kd.R k32 32 w' w.heap.size (fun _ => True) v4_ r5 ∧ Below w.heap.size w w' := by
  rw [G.Read_eq] at h
  split at h
  · rename_i hb
    have h := Option.some.inj h
    unfold readP at h
    by_cases h1 : 131072 < l0.length
    · rw [if_pos h1] at h
      cases h
      exact (read_big A0 l0.length c0 w h1).mono fun e w' k => none_of k
    rw [if_neg h1] at h
    by_cases h2 : l0.length < 64
    · rw [if_pos h2] at h
      cases h
      exact (read_less A0 l0.length c0 w h2).mono fun e w' k => none_of k
    rw [if_neg h2] at h
    obtain ⟨ad, rfl, hx⟩ := C_row8 hr0 (by omega)
    by_cases h3 : l0.take 4 = elfS
    · rw [if_neg (fun k => k h3)] at h
      cases hr : rightP l0 with
      | false =>
        rw [if_pos hr] at h
        cases h
        exact (read_kind ad l0.length c0 l0 w hT_ hx hb rfl hc0 (by omega) (by omega) h3 hr).mono fun e w' k => none_of k
      | true =>
        rw [if_neg (by rw [hr]; decide)] at h
        by_cases b1 : badP l0.length (pl l0 1).toNat (pl l0 3).toNat 56
        · rw [if_pos (.inl b1)] at h
          cases h
          by_cases b2 : badP l0.length (pl l0 2).toNat (pl l0 4).toNat 64
          · exact (read_p1 ad l0.length c0 l0 w hT_ hx hb rfl hc0 (by omega) (by omega) h3 hr (bad_e b1) (bad_e b2)).mono fun e w' k => none_of k
          · exact (read_p2 ad l0.length c0 l0 w hT_ hx hb rfl hc0 (by omega) (by omega) h3 hr (bad_e b1) (bad_n b2)).mono fun e w' k => none_of k
        · by_cases b2 : badP l0.length (pl l0 2).toNat (pl l0 4).toNat 64
          · rw [if_pos (.inr b2)] at h
            cases h
            exact (read_p3 ad l0.length c0 l0 w hT_ hx hb rfl hc0 (by omega) (by omega) h3 hr (bad_n b1) (bad_e b2)).mono fun e w' k => none_of k
          · rw [if_neg (fun k => k.elim b1 b2)] at h
            cases h
            refine (read_ok ad l0.length c0 l0 w hT_ hx hb rfl hc0 (by omega) (by omega) h3 hr (bad_n b1) (bad_n b2)).mono ?_
            unfold segsB secsB
            rw [if_neg b1, if_neg b2]
            intro e w' k
            exact k
    · rw [if_pos h3] at h
      cases h
      exact (read_magic ad l0.length c0 l0 w hT_ hx hb rfl hc0 (by omega) (by omega) h3).mono fun e w' k => none_of k
  · cases h
end Go.Proofs.YtopldeeojehklaaDoor.B
namespace Go.Proofs.YtopldeeojehklaaDoor.B
open Go.RowKit Go.Proofs.YtopldeeojehklaaDoorW.PrintWords Go.RF
set_option linter.unusedVariables false
set_option linter.unusedSimpArgs false
def b2 (x : Int) : List Int := [byteN x 0, byteN x 1]
def b4 (x : Int) : List Int := [byteN x 0, byteN x 1, byteN x 2, byteN x 3]
def b8 (x : Int) : List Int := [byteN x 0, byteN x 1, byteN x 2, byteN x 3, byteN x 4, byteN x 5, byteN x 6, byteN x 7]
theorem segP_list (a0 a1 a2 a3 a4 a5 a6 : Int) : segP a0 a1 a2 a3 a4 a5 a6 = b4 (IntKind.u64.wrap a0) ++ (b4 (IntKind.u64.wrap a1) ++ (b8 a2 ++ (b8 a3 ++ ([0, 0, 0, 0, 0, 0, 0, 0] ++ (b8 a4 ++ (b8 a5 ++ b8 a6)))))) := by kernel_rfl
theorem secP_list (a0 a1 a2 a3 a4 : Int) : secP a0 a1 a2 a3 a4 = [0, 0, 0, 0] ++ (b4 (IntKind.u64.wrap a0) ++ ([0, 0, 0, 0, 0, 0, 0, 0, 0, 0, 0, 0, 0, 0, 0, 0] ++ (b8 a1 ++ (b8 a2 ++ (b4 (IntKind.u64.wrap a3) ++ ([0, 0, 0, 0, 0, 0, 0, 0, 0, 0, 0, 0] ++ b8 a4)))))) := by kernel_rfl
theorem headP_list (a0 a1 a2 : Int) (n m : Nat) : headP a0 a1 a2 n m = [127, 69, 76, 70, 2, 1, 1, 0, 0, 0, 0, 0, 0, 0, 0, 0, 2, 0, 62, 0, 1, 0, 0, 0] ++ (b8 a0 ++ (b8 a1 ++ (b8 a2 ++ ([0, 0, 0, 0, 64, 0, 56, 0] ++ (b2 (IntKind.u64.wrap (n : Int)) ++ ([64, 0] ++ (b2 (IntKind.u64.wrap (m : Int)) ++ [0, 0]))))))) := by kernel_rfl
theorem wakes_read : readP (headP 7 0 0 0 0) = (7, 0, 0, [], [], 0) := by kernel_rfl
def G32 (x : Int) : Prop := 0 ≤ x ∧ x < 4294967296
def GoodSeg (x : S30) : Prop := G32 x.f0 ∧ G32 x.f1 ∧ Rg x.f2 ∧ Rg x.f3 ∧ Rg x.f4 ∧ Rg x.f5 ∧ Rg x.f6
def GoodSec (x : S32) : Prop := G32 x.f0 ∧ Rg x.f1 ∧ Rg x.f2 ∧ G32 x.f3 ∧ Rg x.f4
theorem wrap32 {x : Int} (h : G32 x) : IntKind.u32.wrap x = x := by
  rw [IntKind.wrap_u32]; have := h.1; have := h.2; omega
theorem head_len (a0 a1 a2 : Int) (n m : Nat) : (headP a0 a1 a2 n m).length = 64 := by rw [headP_list]; rfl
end Go.Proofs.YtopldeeojehklaaDoor.B
