/- Sets by steps: cut and summed. Sums of sets: both$1 tells what the plain sums tell. Sums of sets: Add and Sub. What the document says of two sets: wakes is true. StridedOrder tells true. What the rows of the sets' laws hand in: sets of words; the table of masks where it is laid. StridedOrder's walk in the row's form. Widening: what it tells, and that a set is widened to another one at most 193 times. -/
import Derived.Test.YtpphcfkldhemeaaDoorWq13
import Derived.Test.YtpphcfkldhemeaaDoorRows
import Derived.ProofKit
import Derived.OpenShut
import Derived.LaidLaws
import Derived.Lib.LaidTab
import Derived.ChangeSame
import Derived.Test.YtpphcfkldhemeaaDoorWq8
namespace Go.Proofs.YtpphcfkldhemeaaDoor.B
open Go.RowKit
set_option linter.unusedVariables false
set_option linter.unusedSimpArgs false
theorem and_mask (k : Nat) (hk : k ≤ 64) (x : Int) (h0 : 0 ≤ x) (h1 : x < 18446744073709551616) : Go.bits .and .u64 x (2 ^ k - 1) = x % 2 ^ k := by
  obtain ⟨n, rfl⟩ : ∃ n : Nat, x = n := ⟨x.toNat, by omega⟩
  have hp : (2 : Nat) ^ k ≤ 2 ^ 64 := Nat.pow_le_pow_right (by decide) hk
  have hpos : 0 < (2 : Nat) ^ k := Nat.pow_pos (by decide)
  have e64 : (2 : Nat) ^ 64 = 18446744073709551616 := by decide
  have hm : ((2 : Int) ^ k - 1) = (((2 : Nat) ^ k - 1 : Nat) : Int) := by
    rw [Int.ofNat_sub hpos]; simp
  rw [hm]
  show IntKind.u64.wrap ((BitVec.ofInt 64 (n : Int) &&& BitVec.ofInt 64 (((2 : Nat) ^ k - 1 : Nat) : Int)).toNat : Int) = _
  simp only [BitVec.ofInt_natCast, BitVec.toNat_and, BitVec.toNat_ofNat]
  rw [Nat.mod_eq_of_lt (show n < 2 ^ 64 by omega), Nat.mod_eq_of_lt (show 2 ^ k - 1 < 2 ^ 64 by omega), Nat.and_two_pow_sub_one_eq_mod]
  have hlt : n % 2 ^ k ≤ n := Nat.mod_le _ _
  rw [wrapU (by omega) (by omega)]
  simp
structure MaskP (m : Int) : Prop where
  lo : 255 ≤ m
  hi : m < 18446744073709551616
  and_ : ∀ x, 0 ≤ x → x < 18446744073709551616 → Go.bits .and .u64 x m = x % (m + 1)
  dvd : (m + 1) ∣ 18446744073709551616
theorem maskP (width : Int) : MaskP (maskF width) := by
  obtain ⟨k, hk, h1, h2⟩ := mask_ok width
  have e : (2 : Int) ^ k - 1 + 1 = 2 ^ k := by omega
  have p1 : (2 : Int) ^ 8 ≤ 2 ^ k := by exact_mod_cast Nat.pow_le_pow_right (n := 2) (by decide) h2
  have p2 : (2 : Int) ^ k ≤ 2 ^ 64 := by exact_mod_cast Nat.pow_le_pow_right (n := 2) (by decide) h1
  have e1 : (2 : Int) ^ 8 = 256 := by decide
  have e2 : (2 : Int) ^ 64 = 18446744073709551616 := by decide
  rw [hk]
  refine ⟨by omega, by omega, fun x h0 h3 => ?_, ?_⟩
  · rw [e]; exact and_mask k h1 x h0 h3
  · rw [e, ← e2]
    exact ⟨2 ^ (64 - k), by rw [← Int.pow_add]; congr 1; omega⟩
def cutT (t : T3) (m : Int) : T3 := if noB t then t else if t.2.2 ≤ m then t else if t.1 = 0 then (0, t.2.1 % (m + 1), t.2.1 % (m + 1)) else (1, 0, m)
theorem cut_f {t : T3} (h : Ok t) (width : Int) : strided_Cut.f 1 t.1 t.2.1 t.2.2 width = some (cutT t (maskF width)) := by
  have hm := maskP width
  unfold strided_Cut.f cutT
  cases hn : noB t with
  | true =>
    rw [noB_iff] at hn; subst hn
    rfl
  | false =>
    have k := h.sm hn
    obtain ⟨⟨k1, k2⟩, ⟨k3, k4⟩, ⟨k5, k6⟩, k7⟩ := k.rg
    rw [seen_sm k]
    simp only [Option.bind_some, strided_None.f]
    have hn' : ¬ ((t.1 == 0 && (t.2.1 == 1 && (t.2.2 == 0))) = true) := by
      have := hn
      unfold noB at this
      rw [this]
      decide
    rw [if_neg hn']
    simp only [bits_Mask.f, G.Mask, Option.bind_some, strided_Cut.j0, Bool.false_eq_true, if_false]
    by_cases h1 : t.2.2 ≤ maskF width
    · rw [if_pos (decide_eq_true h1), if_pos h1]
    · rw [if_neg (by simpa using h1), if_neg h1]
      by_cases h2 : t.1 = 0
      · rw [if_pos h2, if_pos h2]
        simp only [bits_Cut.f, bits_Mask.f, G.Mask, Option.bind_some, strided_One.f]
        rw [hm.and_ _ k3 k4]
      · rw [if_neg h2, if_neg h2]
        simp only [strided_All.f, bits_Mask.f, G.Mask, Option.bind_some]
theorem one_ok {v : Int} (h0 : 0 ≤ v) (h1 : v < 18446744073709551616) : SmT (0, v, v) := ⟨h0, h1, .inl ⟨rfl, rfl⟩⟩
theorem all_ok {m : Int} (hm : MaskP m) : SmT (1, 0, m) := ⟨Int.le_refl 0, hm.hi, .inr ⟨Int.zero_lt_one, by have := hm.lo; show 0 < m; omega, Int.one_dvd _⟩⟩
theorem mod_rg {m x : Int} (hm : MaskP m) : 0 ≤ x % (m + 1) ∧ x % (m + 1) ≤ m := by
  have h1 := hm.lo
  have h2 := Int.emod_nonneg x (show m + 1 ≠ 0 by omega)
  have h3 := Int.emod_lt_of_pos x (show 0 < m + 1 by omega)
  omega
theorem cut_ok {t : T3} {m : Int} (h : Ok t) (hm : MaskP m) : Ok (cutT t m) := by
  unfold cutT
  cases hn : noB t with
  | true => exact h
  | false =>
    simp only [Bool.false_eq_true, if_false]
    by_cases h1 : t.2.2 ≤ m
    · rw [if_pos h1]; exact h
    · rw [if_neg h1]
      by_cases h2 : t.1 = 0
      · rw [if_pos h2]
        have := mod_rg hm (x := t.2.1)
        have := hm.hi
        exact .inr (one_ok (by omega) (by omega))
      · rw [if_neg h2]; exact .inr (all_ok hm)
def Fits (t : T3) (m : Int) : Prop := noB t = true ∨ t.2.2 ≤ m
theorem cut_fits {t : T3} {m : Int} (h : Ok t) (hm : MaskP m) : Fits (cutT t m) m := by
  unfold cutT
  cases hn : noB t with
  | true => exact .inl hn
  | false =>
    simp only [Bool.false_eq_true, if_false]
    by_cases h1 : t.2.2 ≤ m
    · rw [if_pos h1]; exact .inr h1
    · rw [if_neg h1]
      by_cases h2 : t.1 = 0
      · rw [if_pos h2]; exact .inr (mod_rg hm).2
      · rw [if_neg h2]; exact .inr (Int.le_refl _)
theorem single_eq {a b : T3} (ka : SmT a) (kb : SmT b) (h : inP a.1 a.2.1 a.2.2 b.1 b.2.1 b.2.2) (hb : b.1 = 0) : a = b := by
  obtain ⟨a0, a1, a2⟩ := a
  obtain ⟨b0, b1, b2⟩ := b
  have hb : b0 = 0 := hb
  subst hb
  have e := Sm.zero kb
  obtain ⟨h1, h2, h3, h4⟩ := h
  have h3 := Int.zero_dvd.1 h3
  have h4 := Int.zero_dvd.1 h4
  have := ka.rg.2.2.2
  simp only at *
  refine Prod.ext h4 (Prod.ext ?_ ?_) <;> simp only <;> omega
theorem no_of_in {a b : T3} (h : inT a b = true) (hb : noB b = true) : noB a = true := by
  cases hn : noB a with
  | true => rfl
  | false => have := (inT_iff.1 h hn).1; rw [hb] at this; cases this
def sumT (v lo hi : Int) (fits : Prop) [Decidable fits] (a b : T3) (m : Int) : T3 :=
  if noB a then none3 else if noB b then none3 else if a.1 = 0 ∧ b.1 = 0 then (0, v, v) else if fits then (gI a.1 b.1, lo, hi) else (1, 0, m)
def addT (a b : T3) (m : Int) : T3 := sumT ((a.2.1 + b.2.1) % (m + 1)) (a.2.1 + b.2.1) (a.2.2 + b.2.2) (a.2.2 + b.2.2 ≤ m) a b m
theorem wide_of {a b : T3} (ka : SmT a) (kb : SmT b) (hz : ¬ (a.1 = 0 ∧ b.1 = 0)) : 0 < gI a.1 b.1 ∧ a.2.1 + b.2.1 < a.2.2 + b.2.2 ∧ gI a.1 b.1 ∣ (a.2.2 - a.2.1) + (b.2.2 - b.2.1) := by
  have r1 := ka.rg
  have r2 := kb.rg
  unfold Rg at r1 r2
  have h0 := gI_nonneg a.1 b.1
  have hne : gI a.1 b.1 ≠ 0 := fun e => hz ⟨by have := gI_left a.1 b.1; rw [e] at this; exact Int.zero_dvd.1 this, by have := gI_right a.1 b.1; rw [e] at this; exact Int.zero_dvd.1 this⟩
  refine ⟨by omega, ?_, Int.dvd_add (Int.dvd_trans (gI_left _ _) ka.hl) (Int.dvd_trans (gI_right _ _) kb.hl)⟩
  obtain ⟨_, _, ⟨h1, _⟩ | ⟨_, h1, _⟩⟩ := ka
  · obtain ⟨_, _, ⟨h2, _⟩ | ⟨_, h2, _⟩⟩ := kb
    · exact absurd ⟨h1, h2⟩ hz
    · omega
  · omega
theorem Fits.le {t : T3} {m : Int} (h : Fits t m) (hn : noB t = false) : t.2.2 ≤ m := by
  rcases h with h | h
  · rw [hn] at h; cases h
  · exact h
end Go.Proofs.YtpphcfkldhemeaaDoor.B
namespace Go.Proofs.YtpphcfkldhemeaaDoor.B
open Go.RowKit Go.Proofs.YtpphcfkldhemeaaDoorW.PrintWords Go.Proofs.YtpphcfkldhemeaaDoorW.PrintMore Go.RF
set_option linter.unusedVariables false
set_option linter.unusedSimpArgs false
abbrev setT (t : T3) : Value := setV t.1 t.2.1 t.2.2
theorem of_total (x y z : Int) : ∃ r1 r2 r3, strided_Of.f x y z = some (r1, r2, r3) := by
  unfold strided_Of.f
  simp only [strided_None.f, strided_One.f, Option.bind_some]
  split
  · exact ⟨_, _, _, rfl⟩
  · split
    · exact ⟨_, _, _, rfl⟩
    · split <;> exact ⟨_, _, _, rfl⟩
theorem of_exact {lo hi s : Int} (h0 : 0 ≤ lo) (h1 : hi < 18446744073709551616) (hs : 0 < s) (hl : lo < hi) (hd : s ∣ hi - lo) : strided_Of.f lo hi s = some (s, lo, hi) := by
  have hle := Int.le_of_dvd (by omega) hd
  unfold strided_Of.f
  rw [if_neg (by omega), if_neg (by omega), wrapU (by omega) (by omega), if_neg (by omega), Int.dvd_iff_tmod_eq_zero.1 hd, Int.sub_zero, wrapU (by omega) h1]
theorem cutW {m : Int} (width x : Int) (hm : MaskP (maskF width)) : bits_Cut.f (IntKind.u64.wrap x) width = some (x % (maskF width + 1)) := by
  simp only [bits_Cut.f, bits_Mask.f, G.Mask, Option.bind_some]
  have h : 0 ≤ IntKind.u64.wrap x ∧ IntKind.u64.wrap x < 18446744073709551616 := by rw [IntKind.wrap_u64]; omega
  rw [hm.and_ _ h.1 h.2, IntKind.wrap_u64, Int.emod_emod_of_dvd _ hm.dvd]
theorem both_add (a b : T3) (ha : Ok a) (hb : Ok b) (width : Int) (bw bv bs : Nat) (bx : Nat) (w0 : World) (hT : Tab w0) (hbw : w0.heap[bw]? = some (.cells #[.int .i64 width] 3 (0, 0))) (hbv : w0.heap[bv]? = some (.cells #[.func (.func 33) #[] #[]] 51 (0, 0))) (hbs : w0.heap[bs]? = some (.cells #[.func (.func 34) #[] #[.pointer (some ⟨bx, 0, none⟩)]] 52 (0, 0))) (hbx : w0.heap[bx]? = some (.cells #[.int .i64 width] 3 (0, 0))) :
    Calls Tryd.prog 43 #[setT a, setT b, .pointer (some ⟨bw, 0, none⟩), .pointer (some ⟨bv, 0, none⟩), .pointer (some ⟨bs, 0, none⟩)] w0 fun e w' => e = .returned (setT (addT (cutT a (maskF width)) (cutT b (maskF width)) (maskF width))) ∧ Below w0.heap.size w0 w' := by
  have hm := maskP width
  have hc := cut_f ha width
  have hd := cut_f hb width
  have kc := cut_ok ha hm
  have kd := cut_ok hb hm
  have fc := cut_fits ha hm
  have fd := cut_fits hb hm
  generalize cutT a (maskF width) = c at *
  generalize cutT b (maskF width) = d at *
  cases hnc : noB c with
  | true =>
    have e : addT c d (maskF width) = (0, 1, 0) := by unfold addT sumT; rw [hnc]; rfl
    rw [e]
    rw [noB_iff] at hnc
    subst hnc
    exact add_both_n1 1 1 a.1 a.2.1 a.2.2 b.1 b.2.1 b.2.2 width d.1 d.2.1 d.2.2 bw bv bs bx w0 hT hbw hbv hbs hbx ⟨hc⟩ ⟨hd⟩
  | false =>
  cases hnd : noB d with
  | true =>
    have e : addT c d (maskF width) = (0, 1, 0) := by unfold addT sumT; rw [hnc, hnd]; rfl
    rw [e]
    rw [noB_iff] at hnd
    subst hnd
    exact add_both_n2 1 1 a.1 a.2.1 a.2.2 b.1 b.2.1 b.2.2 width c.1 c.2.1 c.2.2 bw bv bs bx w0 hT hbw hbv hbs hbx ⟨hc⟩ ⟨hd⟩ hnc
  | false =>
  have sc := kc.sm hnc
  have sd := kd.sm hnd
  have rc := sc.rg
  have rd := sd.rg
  unfold Rg at rc rd
  have lc := fc.le hnc
  have ld := fd.le hnd
  have hhi := hm.hi
  by_cases hz : c.1 = 0 ∧ d.1 = 0
  · have e : addT c d (maskF width) = (0, (c.2.1 + d.2.1) % (maskF width + 1), (c.2.1 + d.2.1) % (maskF width + 1)) := by
      unfold addT sumT; rw [hnc, hnd, if_neg (by simp), if_neg (by simp), if_pos hz]
    rw [e]
    obtain ⟨c0, c1, c2⟩ := c
    obtain ⟨d0, d1, d2⟩ := d
    obtain ⟨e1, e2⟩ := hz
    simp only at e1 e2
    subst e1 e2
    exact add_both_s 1 1 a.1 a.2.1 a.2.2 b.1 b.2.1 b.2.2 width c1 c2 d1 d2 _ bw bv bs bx w0 hT hbw hbv hbs hbx ⟨hc⟩ ⟨hd⟩ hnc hnd ⟨cutW (m := maskF width) width (c1 + d1) hm⟩
  have hz' : (c.1 == 0) = false ∨ (c.1 == 0) = true ∧ (d.1 == 0) = false := by
    by_cases h : c.1 = 0
    · exact .inr ⟨by simpa using h, by simpa using fun h2 => hz ⟨h, h2⟩⟩
    · exact .inl (by simpa using h)
  obtain ⟨v1, v2, v3⟩ := wide_of sc sd hz
  by_cases hf : c.2.2 + d.2.2 ≤ maskF width
  · have e : addT c d (maskF width) = (gI c.1 d.1, c.2.1 + d.2.1, c.2.2 + d.2.2) := by
      unfold addT sumT; rw [hnc, hnd, if_neg (by simp), if_neg (by simp), if_neg hz, if_pos hf]
    rw [e]
    refine add_both_t 1 1 a.1 a.2.1 a.2.2 b.1 b.2.1 b.2.2 width c.1 c.2.1 c.2.2 d.1 d.2.1 d.2.2 _ _ _ bw bv bs bx w0 hT hbw hbv hbs hbx ⟨hc⟩ ⟨hd⟩ hnc hnd hz' rc.1.1 rd.1.1 ?_ ?_
    · rw [wrapU (x := c.2.1 + d.2.1) (by omega) (by omega), wrapU (x := c.2.2 + d.2.2) (by omega) (by omega)]
      exact of_exact (by omega) (by omega) v1 (by omega) (by rw [show c.2.2 + d.2.2 - (c.2.1 + d.2.1) = c.2.2 - c.2.1 + (d.2.2 - d.2.1) by omega]; exact v3)
    · rw [wrapU (by omega) (by omega)]; exact decide_eq_true (by omega)
  · have e : addT c d (maskF width) = (1, 0, maskF width) := by
      unfold addT sumT; rw [hnc, hnd, if_neg (by simp), if_neg (by simp), if_neg hz, if_neg hf]
    rw [e]
    obtain ⟨r1, r2, r3, hof⟩ := of_total (IntKind.u64.wrap (c.2.1 + d.2.1)) (IntKind.u64.wrap (c.2.2 + d.2.2)) (gI c.1 d.1)
    refine add_both_f 1 1 a.1 a.2.1 a.2.2 b.1 b.2.1 b.2.2 width c.1 c.2.1 c.2.2 d.1 d.2.1 d.2.2 r1 r2 r3 bw bv bs bx w0 hT hbw hbv hbs hbx ⟨hc⟩ ⟨hd⟩ hnc hnd hz' rc.1.1 rd.1.1 hof ?_
    rw [wrapU (by omega) (by omega)]; exact decide_eq_false (by omega)
end Go.Proofs.YtpphcfkldhemeaaDoor.B
namespace Go.Proofs.YtpphcfkldhemeaaDoor.B
open Go.RowKit Go.Proofs.YtpphcfkldhemeaaDoorW.PrintWords Go.Proofs.YtpphcfkldhemeaaDoorW.PrintMore Go.RF
set_option linter.unusedVariables false
set_option linter.unusedSimpArgs false
def AdS (w0 : World) (g0 g1 g2 g3 g4 gv gs : Nat) (lbs A B R : Array Value) (width : Int) (X : Bool) (w : World) : Prop :=
  w.heap[g0]? = some (.cells A 24 (0, 0)) ∧ w.heap[g1]? = some (.cells B 24 (0, 0)) ∧ w.heap[g3]? = some (.cells R 24 (0, 0)) ∧ Tab w ∧ Below w0.heap.size w0 w ∧
  (lbs = #[] ∨ w.heap[g2]? = some (.cells #[.int .i64 width] 3 (0, 0))) ∧
  (match X with
   | false => w.heap.size = g4
   | true => w.heap[g4]? = some (.cells #[.int .i64 width] 3 (0, 0)) ∧ w.heap[g4 + 1]? = some (.cells #[.func (.func gv) #[] #[]] 51 (0, 0)) ∧ w.heap[g4 + 2]? = some (.cells #[.func (.func gs) #[] lbs] 52 (0, 0)))
section
variable {w0 : World} {g0 g1 g2 g3 g4 gv gs : Nat} {lbs A B R : Array Value} {width : Int} {w w' : World}
theorem AdS.met (h : AdS w0 g0 g1 g2 g3 g4 gv gs lbs A B R width true w) (hb : Below w.heap.size w w') : AdS w0 g0 g1 g2 g3 g4 gv gs lbs A B R width true w' :=
  ⟨heap_below hb h.1, heap_below hb h.2.1, heap_below hb h.2.2.1, h.2.2.2.1.below hb, below_step h.2.2.2.2.1 hb, h.2.2.2.2.2.1.imp id (heap_below hb), heap_below hb h.2.2.2.2.2.2.1, heap_below hb h.2.2.2.2.2.2.2.1, heap_below hb h.2.2.2.2.2.2.2.2⟩
theorem AdS.drew {X : Bool} (h : AdS w0 g0 g1 g2 g3 g4 gv gs lbs A B R width X w) : AdS w0 g0 g1 g2 g3 g4 gv gs lbs A B R width X { w with drawn := w.drawn + 1 } := by
  obtain ⟨h1, h2, h3, h4, h5, h6, h7⟩ := h
  exact ⟨h1, h2, h3, h4, bY_ h5, h6, h7⟩
theorem AdS.made (h : AdS w0 g0 g1 g2 g3 g4 gv gs lbs A B R width false w) (hb : Below w.heap.size w w') (k0 : w'.heap[w.heap.size]? = some (.cells #[.int .i64 width] 3 (0, 0))) (k1 : w'.heap[w.heap.size + 1]? = some (.cells #[.func (.func gv) #[] #[]] 51 (0, 0)))
    (k2 : w'.heap[w.heap.size + 2]? = some (.cells #[.func (.func gs) #[] lbs] 52 (0, 0))) : AdS w0 g0 g1 g2 g3 g4 gv gs lbs A B R width true w' := by
  obtain ⟨h1, h2, h3, h4, h5, h6, h7⟩ := h
  have h7 : w.heap.size = g4 := h7
  rw [h7] at k0 k1 k2
  exact ⟨heap_below hb h1, heap_below hb h2, heap_below hb h3, h4.below hb, below_step h5 hb, h6.imp id (heap_below hb), k0, k1, k2⟩
theorem AdS.stored {v0 v1 v2 : Value} (h : AdS w0 g0 g1 g2 g3 g4 gv gs lbs A B #[v0, v1, v2] width true w) (hg : 0 < w0.heap.size ∧ w0.heap.size ≤ g0 ∧ g0 < g1 ∧ g1 < g3 ∧ g2 ≠ g3 ∧ g3 < g4) (u0 u1 u2 : Value) :
    AdS w0 g0 g1 g2 g3 g4 gv gs lbs A B #[u0, u1, u2] width true (((w.setCell ⟨g3, 0, none⟩ u0).setCell ⟨g3, 1, none⟩ u1).setCell ⟨g3, 2, none⟩ u2) := by
  obtain ⟨h1, h2, h3, h4, h5, h6, h7, h8, h9⟩ := h
  exact ⟨heap_set3 h1 (by omega) _ _ _, heap_set3 h2 (by omega) _ _ _, (set3 h3 u0 u1 u2).1, tab_set3 h4 (by omega) _ _ _, bS_ (bS_ (bS_ h5 (by omega)) (by omega)) (by omega),
    h6.imp id (fun h => heap_set3 h (by omega) _ _ _), heap_set3 h7 (by omega) _ _ _, heap_set3 h8 (by omega) _ _ _, heap_set3 h9 (by omega) _ _ _⟩
end
set_option maxHeartbeats 8000000 in
set_option maxRecDepth 100000 in
theorem add_calls (a b : T3) (ha : Ok a) (hb : Ok b) (width : Int) (w0 : World) (hT : Tab w0) : Calls Tryd.prog 14 #[setT a, setT b, .int .i64 width] w0 fun e w' => e = .returned (setT (addT (cutT a (maskF width)) (cutT b (maskF width)) (maskF width))) ∧ Below w0.heap.size w0 w' := by
  obtain ⟨r, hr⟩ : ∃ r, addT (cutT a (maskF width)) (cutT b (maskF width)) (maskF width) = r := ⟨_, rfl⟩
  have HR_ := Aside0.mk hr
  have HA := Aside0.mk ha
  have HBB := Aside0.mk hb
  rw [hr]
  clear hr ha hb
  have hs0 : AdS w0 w0.heap.size (w0.heap.size + 1) (w0.heap.size + 2) (w0.heap.size + 3) (w0.heap.size + 4) 33 34 #[.pointer (some ⟨w0.heap.size + 2, 0, none⟩)] (setC a.1 a.2.1 a.2.2) (setC b.1 b.2.1 b.2.2) (setC 0 0 0) width false (((((w0).alloc (.cells (setC a.1 a.2.1 a.2.2) 24)).alloc (.cells (setC b.1 b.2.1 b.2.2) 24)).alloc (.cells #[.int .i64 width] 3)).alloc (.cells (setC 0 0 0) 24)) := by
    have hb : Below w0.heap.size w0 (((((w0).alloc (.cells (setC a.1 a.2.1 a.2.2) 24)).alloc (.cells (setC b.1 b.2.1 b.2.2) 24)).alloc (.cells #[.int .i64 width] 3)).alloc (.cells (setC 0 0 0) 24)) := bX_ (bX_ (bX_ (bX_ (Below.refl _ _) _) _) _) _
    have b0 := World.alloc_heap_new (w0) (.cells (setC a.1 a.2.1 a.2.2) 24)
    have b1 := World.alloc_heap_new ((w0).alloc (.cells (setC a.1 a.2.1 a.2.2) 24)) (.cells (setC b.1 b.2.1 b.2.2) 24)
    have b2 := World.alloc_heap_new (((w0).alloc (.cells (setC a.1 a.2.1 a.2.2) 24)).alloc (.cells (setC b.1 b.2.1 b.2.2) 24)) (.cells #[.int .i64 width] 3)
    have b3 := World.alloc_heap_new ((((w0).alloc (.cells (setC a.1 a.2.1 a.2.2) 24)).alloc (.cells (setC b.1 b.2.1 b.2.2) 24)).alloc (.cells #[.int .i64 width] 3)) (.cells (setC 0 0 0) 24)
    simp only [World.size_alloc] at b1 b2 b3
    have c0 := b0
    replace c0 := (Below.heap_alloc ((w0).alloc (.cells (setC a.1 a.2.1 a.2.2) 24)) (.cells (setC b.1 b.2.1 b.2.2) 24) w0.heap.size (by simp only [World.size_alloc]; omega)).trans c0
    replace c0 := (Below.heap_alloc (((w0).alloc (.cells (setC a.1 a.2.1 a.2.2) 24)).alloc (.cells (setC b.1 b.2.1 b.2.2) 24)) (.cells #[.int .i64 width] 3) w0.heap.size (by simp only [World.size_alloc]; omega)).trans c0
    replace c0 := (Below.heap_alloc ((((w0).alloc (.cells (setC a.1 a.2.1 a.2.2) 24)).alloc (.cells (setC b.1 b.2.1 b.2.2) 24)).alloc (.cells #[.int .i64 width] 3)) (.cells (setC 0 0 0) 24) w0.heap.size (by simp only [World.size_alloc]; omega)).trans c0
    have c1 := b1
    replace c1 := (Below.heap_alloc (((w0).alloc (.cells (setC a.1 a.2.1 a.2.2) 24)).alloc (.cells (setC b.1 b.2.1 b.2.2) 24)) (.cells #[.int .i64 width] 3) (w0.heap.size + 1) (by simp only [World.size_alloc]; omega)).trans c1
    replace c1 := (Below.heap_alloc ((((w0).alloc (.cells (setC a.1 a.2.1 a.2.2) 24)).alloc (.cells (setC b.1 b.2.1 b.2.2) 24)).alloc (.cells #[.int .i64 width] 3)) (.cells (setC 0 0 0) 24) (w0.heap.size + 1) (by simp only [World.size_alloc]; omega)).trans c1
    have c2 := b2
    replace c2 := (Below.heap_alloc ((((w0).alloc (.cells (setC a.1 a.2.1 a.2.2) 24)).alloc (.cells (setC b.1 b.2.1 b.2.2) 24)).alloc (.cells #[.int .i64 width] 3)) (.cells (setC 0 0 0) 24) (w0.heap.size + 2) (by simp only [World.size_alloc]; omega)).trans c2
    exact ⟨c0, c1, b3, hT.below hb, hb, .inr c2, by simp⟩
  have hlt := hT.lt
  have HS := Aside0.mk hs0
  clear hs0 hT
  go_enter Tryd.func14, Tryd.ntmps14
  go_upto_region 1 with (fail)
  generalize ((((w0).alloc (.cells (setC a.1 a.2.1 a.2.2) 24)).alloc (.cells (setC b.1 b.2.1 b.2.2) 24)).alloc (.cells #[.int .i64 width] 3)).alloc (.cells (setC 0 0 0) 24) = w1 at *
  obtain ⟨g0, hg0⟩ : ∃ g, w0.heap.size = g := ⟨_, rfl⟩
  have HG0 := Aside0.mk hg0
  obtain ⟨g4, hg4⟩ : ∃ g, w0.heap.size + 4 = g := ⟨_, rfl⟩
  obtain ⟨g1, hg1⟩ : ∃ g, w0.heap.size + 1 = g := ⟨_, rfl⟩
  obtain ⟨g2, hg2⟩ : ∃ g, w0.heap.size + 2 = g := ⟨_, rfl⟩
  obtain ⟨g3, hg3⟩ : ∃ g, w0.heap.size + 3 = g := ⟨_, rfl⟩
  have e2 : w0.heap.size + 1 + 1 = g2 := hg2
  have e3 : w0.heap.size + 1 + 1 + 1 = g3 := hg3
  (try rw [e3])
  (try rw [e2])
  (try rw [hg1])
  rw [hg4, hg3, hg2, hg1, hg0] at HS
  have HG := Aside0.mk (⟨hlt, by omega, by omega, by omega, by omega, by omega⟩ : 0 < w0.heap.size ∧ w0.heap.size ≤ g0 ∧ g0 < g1 ∧ g1 < g3 ∧ g2 ≠ g3 ∧ g3 < g4)
  (try rw [hg0])
  clear hg4 hlt hg1 hg2 hg3
  clear hg0
  clear e2
  clear e3
  refine RS.wp_events (by kernel_rfl) [(7, .int .i64 width), (8, .func (.func 34) #[] #[.pointer (some ⟨g2, 0, none⟩)]), (9, .func (.func 43) #[] #[.pointer (some ⟨g4, 0, none⟩), .pointer (some ⟨g4 + 1, 0, none⟩), .pointer (some ⟨g4 + 2, 0, none⟩)]), (10, setT a), (11, setT b), (12, setT r)] (fun f w => AdS w0 g0 g1 g2 g3 g4 33 34 #[.pointer (some ⟨g2, 0, none⟩)] (setC a.1 a.2.1 a.2.2) (setC b.1 b.2.1 b.2.2) (bif f 6 then setC r.1 r.2.1 r.2.2 else setC 0 0 0) width (f 2) w) (by kernel_rfl) (by kernel_rfl) (fun f hf => ?_) ?_ ?_
  · simp only [hf 2 (by decide), hf 6 (by decide), cond_false]
    exact HS.out.drew
  · exact ⟨RS.StepE.load 7 (.int .i64 width) (by kernel_rfl) (by kernel_rfl) rfl (fun f w h => h) (fun f w p1 p2 h => run_load rfl (by kernel_rfl) (load_num (i := 0) Tryd.underlying3 (h.2.2.2.2.2.1.resolve_left (by simp)) rfl)),
    RS.StepE.pure 8 (by kernel_rfl) rfl (fun w => by kernel_rfl) (fun f w h => h),
    RS.StepE.call 9 32 #[.int .i64 width, .func (.func 33) #[] #[], .func (.func 34) #[] #[.pointer (some ⟨g2, 0, none⟩)]] (.func (.func 43) #[] #[.pointer (some ⟨g4, 0, none⟩), .pointer (some ⟨g4 + 1, 0, none⟩), .pointer (some ⟨g4 + 2, 0, none⟩)]) (by kernel_rfl) (by kernel_rfl) rfl (fun w => by kernel_rfl) (fun g w h0 p1 p2 h => by
      have h0 : g 2 = false := h0
      have e6 : g 6 = false := p2 6 (by kernel_rfl) (by decide)
      simp only [h0, e6, cond_false] at h
      have hz : w.heap.size = g4 := h.2.2.2.2.2.2
      refine (both_calls width 33 34 #[.pointer (some ⟨g2, 0, none⟩)] w).mono ?_
      rintro e w' ⟨rfl, k0, k1, k2, hb⟩
      refine ⟨by rw [hz], ?_⟩
      show AdS w0 g0 g1 g2 g3 g4 33 34 #[.pointer (some ⟨g2, 0, none⟩)] (setC a.1 a.2.1 a.2.2) (setC b.1 b.2.1 b.2.2) (bif g 6 then _ else _) width true w'
      rw [e6]
      exact h.made hb k0 k1 k2),
    RS.StepE.load 10 (setT a) (by kernel_rfl) (by kernel_rfl) rfl (fun f w h => h) (fun f w p1 p2 h => run_load rfl (by kernel_rfl) (load_set h.1)),
    RS.StepE.load 11 (setT b) (by kernel_rfl) (by kernel_rfl) rfl (fun f w h => h) (fun f w p1 p2 h => run_load rfl (by kernel_rfl) (load_set h.2.1)),
    RS.StepE.call 12 43 #[setT a, setT b, .pointer (some ⟨g4, 0, none⟩), .pointer (some ⟨g4 + 1, 0, none⟩), .pointer (some ⟨g4 + 2, 0, none⟩)] (setT r) (by kernel_rfl) (by kernel_rfl) rfl (fun w => by kernel_rfl) (fun g w h0 p1 p2 h => by
      have e2 : g 2 = true := p1 2 (by kernel_rfl)
      have e6 : g 6 = false := p2 6 (by kernel_rfl) (by decide)
      simp only [e2, e6, cond_false] at h
      refine (both_add a b HA.out HBB.out width g4 (g4 + 1) (g4 + 2) g2 w h.2.2.2.1 h.2.2.2.2.2.2.1 h.2.2.2.2.2.2.2.1 h.2.2.2.2.2.2.2.2 (h.2.2.2.2.2.1.resolve_left (by simp))).mono ?_
      rintro e w' ⟨rfl, hb⟩
      refine ⟨by rw [HR_.out], ?_⟩
      show AdS w0 g0 g1 g2 g3 g4 33 34 #[.pointer (some ⟨g2, 0, none⟩)] (setC a.1 a.2.1 a.2.2) (setC b.1 b.2.1 b.2.2) (bif g 6 then _ else _) width (g 2) w'
      rw [e6, e2]
      exact h.met hb),
    RS.StepE.event (undef) (by intro d hd; cases hd) (by kernel_rfl) (fun g w h0 p1 p2 h => by
      have h0 : g 6 = false := h0
      have e2 : g 2 = true := p1 2 (by kernel_rfl)
      simp only [h0, e2, cond_false] at h
      refine ⟨_, .inr ⟨run_store_set (g := g3) (s := r.1) (l := r.2.1) (h := r.2.2) rfl (by kernel_rfl) (by kernel_rfl) h.2.2.1, rfl⟩, ?_⟩
      show AdS w0 g0 g1 g2 g3 g4 33 34 #[.pointer (some ⟨g2, 0, none⟩)] (setC a.1 a.2.1 a.2.2) (setC b.1 b.2.1 b.2.2) (setC r.1 r.2.1 r.2.2) width (g 2) _
      rw [e2]
      exact h.stored HG.out _ _ _), trivial⟩
  rintro f w2 hf hs
  simp only [hf, cond_true] at hs
  clear HS
  have HB := Aside0.mk hs.2.2.2.2.1
  have HR := Aside0.mk hs.2.2.1
  clear hs
  (try simp only [RS.sets, List.setIfInBounds_toArray, List.set_cons_zero, List.set_cons_succ])
  have hu24 := Tryd.underlying24
  go_wp2_with fail
  refine bodyPost_ret (results_cell rfl _ _ g3 24 _ (0, 0) _ rfl HR.out Tryd.underlying24 rfl (by kernel_rfl)) rfl ⟨rfl, HB.out⟩
end Go.Proofs.YtpphcfkldhemeaaDoor.B
namespace Go.Proofs.YtpphcfkldhemeaaDoor.B
open Go.RowKit Go.Proofs.YtpphcfkldhemeaaDoorW.PrintWords Go.Proofs.YtpphcfkldhemeaaDoorW.PrintMore Go.RF
set_option linter.unusedVariables false
set_option linter.unusedSimpArgs false
set_option maxHeartbeats 8000000 in
set_option maxRecDepth 100000 in
theorem many_none (w : World) : Calls Tryd.prog 13 #[setV 0 1 0] w fun e w' => e = .returned (.int .u64 0) ∧ Below w.heap.size w w' := by
  go_enter Tryd.func13, Tryd.ntmps13
  go_wp2_with (first | (go_at_call 27; refine (strided_some.calls 0 1 0 false _ some_no).mono ?_; rintro e w1 ⟨rfl, hb⟩; have HB := Aside0.mk hb; clear hb))
  go_ret
  exact ⟨rfl, (bX_ (Below.refl _ _) _).trans (HB.out.mono (by simp))⟩
theorem valsP_len (s l h : Int) : (valsP s l h).length = stepsN s l h + 1 := by
  unfold valsP
  generalize stepsN s l h + 1 = n
  induction n generalizing l with
  | zero => rfl
  | succ n ih => simp [valL, ih]
theorem list_sm (s l h most : Int) (k : Sm s l h) (w : World) (hm1 : most ≤ 1000000) (hn : (stepsN s l h : Int) + 1 < most) : Calls Tryd.prog 12 #[setV s l h, .int .i64 most] w fun e w' =>
      ∃ v, e = .returned v ∧ Kd.R (Kd.int .u64) 22 w' w.heap.size (fun _ => True) v (valsP s l h) ∧ Below w.heap.size w w' :=
  list_gen s l h most _ w (by omega) hm1 (by rw [valsP_len]; omega) (fun bs W R hb hR => vals_iter bs s l h k W R hb hR)
theorem sm4 : Sm 4 3 19 := ⟨by decide, by decide, .inr ⟨by decide, by decide, by decide⟩⟩
theorem sm8 : Sm 8 3 11 := ⟨by decide, by decide, .inr ⟨by decide, by decide, by decide⟩⟩
theorem ok4 : Ok (4, 3, 19) := .inr sm4
theorem okOne {x : Int} (h0 : 0 ≤ x) (h1 : x < 18446744073709551616) : Ok (0, x, x) := .inr (one_ok h0 h1)
theorem sum_wakes : addT (cutT (4, 3, 19) (maskF 1)) (cutT (0, 1, 1) (maskF 1)) (maskF 1) = (4, 4, 20) := by decide
theorem join_wakes : joinT (0, 3, 3) (0, 11, 11) = (8, 3, 11) := by decide
theorem load_of {W : World} {ad : Addr} {x : Int} (h : W.cell? ad = some (.int .u64 x)) : (Instr.loadAt 22 (.pointer (some ad))).run Tryd.prog W = .ok (.int .u64 x) W := by
  have ha : (isAgg 22).run Tryd.prog W = .ok false W := by unfold isAgg; rw [Sem.run_bind, run_underlying Tryd.underlying22]; rfl
  go_simp
def WkS (w0 : World) (g1 g3 : Nat) (ad : Addr) (w : World) : Prop :=
  w.heap[g1]? = some (.cells (setC 4 3 19) 24 (0, 0)) ∧ w.heap[g3]? = some (.cells (setC 8 3 11) 24 (0, 0)) ∧ w.cell? (ad.add 4) = some (.int .u64 19) ∧ Tab w ∧ Below w0.heap.size w0 w
theorem WkS.met {w0 : World} {g1 g3 : Nat} {ad : Addr} {w w' : World} (h : WkS w0 g1 g3 ad w) (hb : Below w.heap.size w w') : WkS w0 g1 g3 ad w' :=
  ⟨heap_below hb h.1, heap_below hb h.2.1, pw_cell_below hb h.2.2.1, h.2.2.2.1.below hb, below_step h.2.2.2.2 hb⟩
theorem WkS.drew {w0 : World} {g1 g3 : Nat} {ad : Addr} {w : World} (h : WkS w0 g1 g3 ad w) : WkS w0 g1 g3 ad { w with drawn := w.drawn + 1 } := by
  obtain ⟨h1, h2, h3, h4, h5⟩ := h
  exact ⟨h1, h2, h3, h4, bY_ h5⟩
set_option maxHeartbeats 8000000 in
set_option maxRecDepth 100000 in
theorem wakes_calls (w0 : World) (hT : Tab w0) : Calls Tryd.prog 8 #[] w0 fun e w' => e = .returned (.bool true) ∧ Below w0.heap.size w0 w' := by
  obtain ⟨KJ, hj⟩ := join_f (okOne (x := 3) (by decide) (by decide)) (okOne (x := 11) (by decide) (by decide))
  rw [join_wakes] at hj
  have HJ := Aside0.mk hj
  have HT := Aside0.mk hT
  clear hj hT
  go_enter Tryd.func8, Tryd.ntmps8
  go_upto_region 2 with (go_at_call 23; refine (strided_Of.calls 3 20 4 4 3 19 _ (by decide)).mono ?_; rintro e w1 ⟨rfl, hb⟩; have HB := Aside0.mk hb; clear hb)
  have k1 := World.alloc_heap_new w1 (.cells (setC 4 3 19) 24)
  have kb := below_step HB.out (bX_ (Below.refl _ _) (.cells (setC 4 3 19) 24) : Below w1.heap.size w1 (w1.alloc (.cells (setC 4 3 19) 24)))
  generalize w1.alloc (.cells (setC 4 3 19) 24) = w2 at *
  generalize w1.heap.size = g1 at *
  have K1 := Aside0.mk k1
  clear HB
  have HB := Aside0.mk kb
  obtain ⟨⟨q0, q1, q2⟩, -⟩ := rows3 k1
  clear k1 kb
  go_upto_region 3 with (go_at_call 12; refine (list_sm 4 3 19 99 sm4 _ (by decide) (by decide)).mono ?_; rintro e w3 ⟨v, rfl, hl, hb⟩)
  have L1 := Aside0.mk (show Kd.R (Kd.int .u64) 22 w3 w2.heap.size (fun _ => True) v [3, 7, 11, 15, 19] from hl)
  have hb3 := below_step HB.out hb
  have k1 := heap_below hb K1.out
  clear HB K1 hl q0 q1 q2
  have HB := Aside0.mk hb3
  have K1 := Aside0.mk k1
  obtain ⟨A, c, rfl⟩ : ∃ A c, v = .slice A 5 c := by
    obtain ⟨_, _, ho, _⟩ := L1.out
    exact own_slice ho
  clear hb hb3 k1
  go_upto_region 4 with (first | (go_at_call 24; refine (strided_One.calls 3 0 3 3 _ rfl).mono ?_; rintro e w4 ⟨rfl, hb4⟩) | (go_at_call 24; refine (strided_One.calls 11 0 11 11 _ rfl).mono ?_; rintro e w5 ⟨rfl, hb5⟩) | (go_at_call 10; refine (strided_Join.calls KJ 0 3 3 0 11 11 8 3 11 _ HJ.out).mono ?_; rintro e w6 ⟨rfl, hb6⟩))
  obtain ⟨ad, rfl, hcell⟩ := (Kd.reads_of_C (enc := Value.int .u64) (d := (0 : Int)) (h1 := fun _ => rfl) (Kd.R_reads' L1.out).2.2).2.2 (by decide)
  have k3 := World.alloc_heap_new w6 (.cells (setC 8 3 11) 24)
  have hb7 : Below w6.heap.size w6 (w6.alloc (.cells (setC 8 3 11) 24)) := bX_ (Below.refl _ _) _
  generalize w6.alloc (.cells (setC 8 3 11) 24) = w7 at *
  generalize w6.heap.size = g3 at k3 ⊢
  have hs : WkS w0 g1 g3 ad w7 := ⟨heap_below hb7 (heap_below hb6 (heap_below hb5 (heap_below hb4 K1.out))), k3, pw_cell_below hb7 (pw_cell_below hb6 (pw_cell_below hb5 (pw_cell_below hb4 (hcell 4 (by decide))))), HT.out.below (below_step HB.out (below_step hb4 (below_step hb5 (below_step hb6 hb7)))), below_step HB.out (below_step hb4 (below_step hb5 (below_step hb6 hb7)))⟩
  clear HB K1 L1 hcell hb4 hb5 hb6 hb7 k3
  have HS := Aside0.mk hs
  clear hs
  refine RS.wp_drawn (by kernel_rfl) [(10, .slice (some ad) 5 c), (11, .int .i64 5), (12, .bool true), (13, .bool true), (14, .slice (some ad) 5 c), (15, .pointer (some (ad.add 4))), (16, .int .u64 19), (17, .bool true), (18, .bool true), (19, .bool true), (20, .pointer (some ⟨g1, 2, none⟩)), (21, .int .u64 19), (22, .bool true), (23, .bool true), (24, .bool true), (25, setV 8 3 11), (26, setV 8 3 11), (27, .bool true), (28, .bool true), (29, .bool true), (30, setV 8 3 11), (31, .bool true), (32, .bool true), (33, .bool true), (34, setV 8 3 11), (35, .bool false), (36, .bool true), (37, .bool true), (38, .bool true), (39, setV 2 1 4), (40, .bool false), (41, .bool true), (42, .bool true), (43, .bool true), (44, setV 0 1 0), (45, .int .u64 0), (46, .bool true), (47, .bool true), (48, .bool true), (49, setV 8 3 11), (50, setV 4 3 19), (51, .bool true), (52, .bool true), (53, .bool true), (54, setV 4 3 19), (55, setV 0 1 1), (56, setV 4 4 20), (57, .int .u64 4), (58, .bool true), (59, .bool true), (0, .bool true)] (WkS w0 g1 g3 ad) (by kernel_rfl) (by kernel_rfl) HS.out.drew ?_ ?_
  · exact ⟨RS.StepOK.pure 10 (by kernel_rfl) rfl (fun w => by kernel_rfl),
    RS.StepOK.pure 11 (by kernel_rfl) rfl (fun w => by kernel_rfl),
    RS.StepOK.pure 12 (by kernel_rfl) rfl (fun w => by kernel_rfl),
    RS.StepOK.pure 13 (by kernel_rfl) rfl (fun w => by kernel_rfl),
    RS.StepOK.pure 14 (by kernel_rfl) rfl (fun w => by kernel_rfl),
    RS.StepOK.pure 15 (by kernel_rfl) rfl (fun w => by kernel_rfl),
    RS.StepOK.load 16 (.int .u64 19) (by kernel_rfl) (by kernel_rfl) rfl (fun w hS => run_load rfl (by kernel_rfl) (load_of hS.2.2.1)),
    RS.StepOK.pure 17 (by kernel_rfl) rfl (fun w => by kernel_rfl),
    RS.StepOK.pure 18 (by kernel_rfl) rfl (fun w => by kernel_rfl),
    RS.StepOK.pure 19 (by kernel_rfl) rfl (fun w => by kernel_rfl),
    RS.StepOK.pure 20 (by kernel_rfl) rfl (fun w => by kernel_rfl),
    RS.StepOK.load 21 (.int .u64 19) (by kernel_rfl) (by kernel_rfl) rfl (fun w hS => run_load rfl (by kernel_rfl) (load_num (i := 2) Tryd.underlying22 hS.1 rfl)),
    RS.StepOK.pure 22 (by kernel_rfl) rfl (fun w => by kernel_rfl),
    RS.StepOK.pure 23 (by kernel_rfl) rfl (fun w => by kernel_rfl),
    RS.StepOK.pure 24 (by kernel_rfl) rfl (fun w => by kernel_rfl),
    RS.StepOK.load 25 (setV 8 3 11) (by kernel_rfl) (by kernel_rfl) rfl (fun w hS => run_load rfl (by kernel_rfl) (load_set hS.2.1)),
    RS.StepOK.pure 26 (by kernel_rfl) rfl (fun w => by kernel_rfl),
    RS.StepOK.load 27 (.bool true) (by kernel_rfl) (by kernel_rfl) rfl (fun w hS => run_bin rfl (by kernel_rfl) (by kernel_rfl) (by kernel_rfl) (eql_set 8 3 11 8 3 11 w)),
    RS.StepOK.pure 28 (by kernel_rfl) rfl (fun w => by kernel_rfl),
    RS.StepOK.pure 29 (by kernel_rfl) rfl (fun w => by kernel_rfl),
    RS.StepOK.load 30 (setV 8 3 11) (by kernel_rfl) (by kernel_rfl) rfl (fun w hS => run_load rfl (by kernel_rfl) (load_set hS.2.1)),
    RS.StepOK.call 31 9 #[setV 8 3 11, .int .u64 11] (.bool true) (by kernel_rfl) (by kernel_rfl) rfl (fun w => by kernel_rfl) (fun w hS => (strided_Has.calls 8 3 11 11 true w (has_sm sm8 ⟨by decide, by decide⟩)).mono (by rintro e w' ⟨rfl, hb⟩; exact ⟨rfl, hS.met hb⟩)),
    RS.StepOK.pure 32 (by kernel_rfl) rfl (fun w => by kernel_rfl),
    RS.StepOK.pure 33 (by kernel_rfl) rfl (fun w => by kernel_rfl),
    RS.StepOK.load 34 (setV 8 3 11) (by kernel_rfl) (by kernel_rfl) rfl (fun w hS => run_load rfl (by kernel_rfl) (load_set hS.2.1)),
    RS.StepOK.call 35 9 #[setV 8 3 11, .int .u64 7] (.bool false) (by kernel_rfl) (by kernel_rfl) rfl (fun w => by kernel_rfl) (fun w hS => (strided_Has.calls 8 3 11 7 false w (has_sm sm8 ⟨by decide, by decide⟩)).mono (by rintro e w' ⟨rfl, hb⟩; exact ⟨rfl, hS.met hb⟩)),
    RS.StepOK.pure 36 (by kernel_rfl) rfl (fun w => by kernel_rfl),
    RS.StepOK.pure 37 (by kernel_rfl) rfl (fun w => by kernel_rfl),
    RS.StepOK.pure 38 (by kernel_rfl) rfl (fun w => by kernel_rfl),
    RS.StepOK.pure 39 (by kernel_rfl) rfl (fun w => by kernel_rfl),
    RS.StepOK.call 40 25 #[setV 2 1 4] (.bool false) (by kernel_rfl) (by kernel_rfl) rfl (fun w => by kernel_rfl) (fun w hS => (strided_Right.calls 2 1 4 false w (by decide)).mono (by rintro e w' ⟨rfl, hb⟩; exact ⟨rfl, hS.met hb⟩)),
    RS.StepOK.pure 41 (by kernel_rfl) rfl (fun w => by kernel_rfl),
    RS.StepOK.pure 42 (by kernel_rfl) rfl (fun w => by kernel_rfl),
    RS.StepOK.pure 43 (by kernel_rfl) rfl (fun w => by kernel_rfl),
    RS.StepOK.call 44 26 #[] (setV 0 1 0) (by kernel_rfl) (by kernel_rfl) rfl (fun w => by kernel_rfl) (fun w hS => (none_calls w).mono (by rintro e w' ⟨rfl, hb⟩; exact ⟨rfl, hS.met hb⟩)),
    RS.StepOK.call 45 13 #[setV 0 1 0] (.int .u64 0) (by kernel_rfl) (by kernel_rfl) rfl (fun w => by kernel_rfl) (fun w hS => (many_none w).mono (by rintro e w' ⟨rfl, hb⟩; exact ⟨rfl, hS.met hb⟩)),
    RS.StepOK.pure 46 (by kernel_rfl) rfl (fun w => by kernel_rfl),
    RS.StepOK.pure 47 (by kernel_rfl) rfl (fun w => by kernel_rfl),
    RS.StepOK.pure 48 (by kernel_rfl) rfl (fun w => by kernel_rfl),
    RS.StepOK.load 49 (setV 8 3 11) (by kernel_rfl) (by kernel_rfl) rfl (fun w hS => run_load rfl (by kernel_rfl) (load_set hS.2.1)),
    RS.StepOK.load 50 (setV 4 3 19) (by kernel_rfl) (by kernel_rfl) rfl (fun w hS => run_load rfl (by kernel_rfl) (load_set hS.1)),
    RS.StepOK.call 51 11 #[setV 8 3 11, setV 4 3 19] (.bool true) (by kernel_rfl) (by kernel_rfl) rfl (fun w => by kernel_rfl) (fun w hS => (strided_In.calls 8 3 11 4 3 19 true w (in_sm sm8 sm4)).mono (by rintro e w' ⟨rfl, hb⟩; exact ⟨rfl, hS.met hb⟩)),
    RS.StepOK.pure 52 (by kernel_rfl) rfl (fun w => by kernel_rfl),
    RS.StepOK.pure 53 (by kernel_rfl) rfl (fun w => by kernel_rfl),
    RS.StepOK.load 54 (setV 4 3 19) (by kernel_rfl) (by kernel_rfl) rfl (fun w hS => run_load rfl (by kernel_rfl) (load_set hS.1)),
    RS.StepOK.call 55 24 #[.int .u64 1] (setV 0 1 1) (by kernel_rfl) (by kernel_rfl) rfl (fun w => by kernel_rfl) (fun w hS => (strided_One.calls 1 0 1 1 w rfl).mono (by rintro e w' ⟨rfl, hb⟩; exact ⟨rfl, hS.met hb⟩)),
    RS.StepOK.call 56 14 #[setV 4 3 19, setV 0 1 1, .int .i64 1] (setV 4 4 20) (by kernel_rfl) (by kernel_rfl) rfl (fun w => by kernel_rfl) (fun w hS => (add_calls (4, 3, 19) (0, 1, 1) ok4 (okOne (by decide) (by decide)) 1 w hS.2.2.2.1).mono (by rw [sum_wakes]; rintro e w' ⟨rfl, hb⟩; exact ⟨rfl, hS.met hb⟩)),
    RS.StepOK.pure 57 (by kernel_rfl) rfl (fun w => by kernel_rfl),
    RS.StepOK.pure 58 (by kernel_rfl) rfl (fun w => by kernel_rfl),
    RS.StepOK.pure 59 (by kernel_rfl) rfl (fun w => by kernel_rfl),
    RS.StepOK.pure 0 (by kernel_rfl) rfl (fun w => by kernel_rfl), trivial⟩
  rintro w8 hs
  clear HS
  have HS := Aside0.mk hs
  clear hs
  (try simp only [RS.sets, List.setIfInBounds_toArray, List.set_cons_zero, List.set_cons_succ])
  go_wp2_with fail
  go_ret
  exact ⟨rfl, HS.out.2.2.2.2⟩
end Go.Proofs.YtpphcfkldhemeaaDoor.B
namespace Go.Proofs.YtpphcfkldhemeaaDoor.B
open Go.RowKit Go.Proofs.YtpphcfkldhemeaaDoorW.PrintWords Go.Proofs.YtpphcfkldhemeaaDoorW.PrintMore Go.RF
set_option linter.unusedVariables false
set_option linter.unusedSimpArgs false
def RgT (t : T3) : Prop := Rg t.1 ∧ Rg t.2.1 ∧ Rg t.2.2
theorem right_ok {t : T3} (h : RgT t) : ∃ b, sundialref22_Right.f t.1 t.2.1 t.2.2 = some b ∧ (b = true → Ok t) := by
  obtain ⟨b, h1, h2⟩ := right_f t.1 t.2.1 t.2.2 h.1 h.2.1 h.2.2
  refine ⟨b, h1, fun hb => ?_⟩
  rcases h2.1 hb with ⟨e1, e2, e3⟩ | h
  · exact .inl (Prod.ext e1 (Prod.ext e2 e3))
  · exact .inr h
set_option maxHeartbeats 8000000 in
set_option maxRecDepth 100000 in
theorem run_alloc24 {o : Oper} {ρ : Operand → Value} {W : World} (ho : o.op = .alloc 24) : (execOp ρ o).run Tryd.prog W = .ok (.value (.pointer (some ⟨W.heap.size, 0, none⟩))) (W.alloc (.cells (setC 0 0 0) 24)) := by
  have hu24 := Tryd.underlying24
  unfold execOp
  simp only [ho]
  go_simp
abbrev setK (t : T3) : Array Value := setC t.1 t.2.1 t.2.2
def OrS (w0 : World) (g0 g1 g2 : Nat) (a b c : T3) (w : World) : Prop :=
  w.heap[g0]? = some (.cells (setK a) 24 (0, 0)) ∧ w.heap[g1]? = some (.cells (setK b) 24 (0, 0)) ∧ w.heap[g2]? = some (.cells (setK c) 24 (0, 0)) ∧ Tab w ∧ Below w0.heap.size w0 w
theorem OrS.met {w0 : World} {g0 g1 g2 : Nat} {a b c : T3} {w w' : World} (h : OrS w0 g0 g1 g2 a b c w) (hb : Below w.heap.size w w') : OrS w0 g0 g1 g2 a b c w' :=
  ⟨heap_below hb h.1, heap_below hb h.2.1, heap_below hb h.2.2.1, h.2.2.2.1.below hb, below_step h.2.2.2.2 hb⟩
theorem OrS.drew {w0 : World} {g0 g1 g2 : Nat} {a b c : T3} {w : World} (h : OrS w0 g0 g1 g2 a b c w) : OrS w0 g0 g1 g2 a b c { w with drawn := w.drawn + 1 } := by
  obtain ⟨h1, h2, h3, h4, h5⟩ := h
  exact ⟨h1, h2, h3, h4, bY_ h5⟩
theorem OrS.set {w0 : World} {g0 g1 g2 g : Nat} {a b c : T3} {w : World} (h : OrS w0 g0 g1 g2 a b c w) (hg : 0 < w0.heap.size ∧ w0.heap.size ≤ g0 ∧ g0 < g1 ∧ g1 < g2) (hx : g2 < g) (u0 u1 u2 : Value) :
    OrS w0 g0 g1 g2 a b c (((w.setCell ⟨g, 0, none⟩ u0).setCell ⟨g, 1, none⟩ u1).setCell ⟨g, 2, none⟩ u2) := by
  obtain ⟨h1, h2, h3, h4, h5⟩ := h
  exact ⟨heap_set3 h1 (by omega) _ _ _, heap_set3 h2 (by omega) _ _ _, heap_set3 h3 (by omega) _ _ _, tab_set3 h4 (by omega) _ _ _, bS_ (bS_ (bS_ h5 (by omega)) (by omega)) (by omega)⟩
theorem OrS.lt {w0 : World} {g0 g1 g2 : Nat} {a b c : T3} {w : World} (h : OrS w0 g0 g1 g2 a b c w) : g2 < w.heap.size := (Array.getElem?_eq_some_iff.1 h.2.2.1).1
def NewB (g2 : Nat) (A B : Bool) (t : T3) (g : Nat) (w : World) : Prop := A = true → g2 < g ∧ w.heap[g]? = some (.cells (bif B then setK t else setC 0 0 0) 24 (0, 0))
theorem NewB.met {g2 : Nat} {A B : Bool} {t : T3} {g : Nat} {w w' : World} (h : NewB g2 A B t g w) (hb : Below w.heap.size w w') : NewB g2 A B t g w' := fun e => ⟨(h e).1, heap_below hb (h e).2⟩
def OrT (w0 : World) (g0 g1 g2 ga gb : Nat) (a b c one : T3) (w : World) : Prop := OrS w0 g0 g1 g2 a b c w ∧ w.heap[ga]? = some (.cells (setK one) 24 (0, 0)) ∧ w.heap[gb]? = some (.cells (setK one) 24 (0, 0))
theorem OrT.met {w0 : World} {g0 g1 g2 ga gb : Nat} {a b c one : T3} {w w' : World} (h : OrT w0 g0 g1 g2 ga gb a b c one w) (hb : Below w.heap.size w w') : OrT w0 g0 g1 g2 ga gb a b c one w' := ⟨h.1.met hb, heap_below hb h.2.1, heap_below hb h.2.2⟩
theorem OrT.drew {w0 : World} {g0 g1 g2 ga gb : Nat} {a b c one : T3} {w : World} (h : OrT w0 g0 g1 g2 ga gb a b c one w) : OrT w0 g0 g1 g2 ga gb a b c one { w with drawn := w.drawn + 1 } := ⟨h.1.drew, h.2.1, h.2.2⟩
end Go.Proofs.YtpphcfkldhemeaaDoor.B
namespace Go.Proofs.YtpphcfkldhemeaaDoor.B
open Go.RowKit Go.ChangeShapes Go.WideShapes Go.ChangeAt Go.Lib Go.Proofs.YtpphcfkldhemeaaDoorW.PrintWords
set_option linter.unusedVariables false
def GoodSet (a b c : Int) : Prop := (Lit.int .u64 a).wf = true ∧ (Lit.int .u64 b).wf = true ∧ (Lit.int .u64 c).wf = true
theorem laid_read {P : Program} {w : World} : ∀ {l : List (String × DataW Unit)} {ps : List MemPlace}, DataW.LaidVars P w l ps → ∀ n d, (n, d) ∈ l →
    ∃ g t cs fuel p, P.globalNamed n = some g ∧ (P.globals[g]?).map (·.type) = some t ∧ w.var? P n = some cs ∧ DataW.trod (fun _ => ()) P w 0 (fun _ => true) false fuel t cs.toList = some (d, p)
  | [], _, _, _, _, hm => by cases hm
  | (n', d') :: r, ps, h, n, d, hm => by
    obtain ⟨g, t, cs, fuel, p, q, h1, h2, h3, h4, h5, _⟩ := h
    rcases List.mem_cons.1 hm with e | e
    · cases e
      exact ⟨g, t, cs, fuel, p, h1, h2, h3, h4⟩
    · exact laid_read h5 n d e
theorem tab_at {P : Program} {w : World} {l : List (String × DataW Unit)} {name : String} {k : IntKind} {zs : List Int} {g t e n : Nat} (hL : laidMet P l w) (hm : (name, (tabData k zs : DataW Unit)) ∈ l) (hg : P.globalNamed name = some g)
    (htt : (P.globals[g]?).map (·.type) = some t) (ht : P.underlying t = some (.array n e)) (he : P.underlying e = some (.int k)) (hce : P.cellsOf e = 1) (hct : P.cellsOf t = n) (i : Nat) (z : Int) (hz : zs[i]? = some z) :
    w.cell? ⟨g, i, none⟩ = some (.int k z) := by
  obtain ⟨ps, hv, -⟩ := hL
  obtain ⟨g', t', cs, fuel, p, h1, h2, h3, h4⟩ := laid_read hv _ _ hm
  obtain rfl : g' = g := Option.some.inj (h1.symm.trans hg)
  obtain rfl : t' = t := Option.some.inj (h2.symm.trans htt)
  have hcs := cells_of_tab ht he hce hct h4
  unfold World.var? at h3
  rw [hg] at h3
  simp only [Option.bind_some] at h3
  unfold World.cell?
  cases hh : w.heap[g']? with
  | none => rw [hh] at h3; simp at h3
  | some o =>
    rw [hh] at h3
    cases o with
    | cells c tt fr =>
      simp only [Option.some.injEq] at h3
      subst h3
      have : c[i]? = some (.int k z) := by
        have e1 : c.toList[i]? = some (.int k z) := by rw [hcs]; simp [hz]
        simpa using e1
      simp [this]
    | _ => simp at h3
theorem laid_of {l : List (String × DataW Unit)} {w : World} (hm : ("sundial/bits.masks", (Rows.laid_sundial_bits_masks : DataW Unit)) ∈ l) (hL : laidMet Tryd.prog l w) : Tab w :=
  fun i z hz => tab_at hL hm (by kernel_rfl) (t := 59) (by kernel_rfl) (n := 9) (e := 22) (by kernel_rfl) (by kernel_rfl) (by kernel_rfl) (by kernel_rfl) i z hz
theorem rg_wf {x : Int} (h : (Lit.int .u64 x).wf = true) : Rg x := by
  have h : IntKind.u64.min ≤ x ∧ x ≤ IntKind.u64.max := by simpa [Lit.wf] using h
  have e0 : IntKind.u64.min = 0 := by decide
  have e1 : IntKind.u64.max = 18446744073709551615 := by decide
  unfold Rg
  omega
instance (t : T3) : Decidable (RgT t) := by unfold RgT Rg; exact inferInstance
theorem GoodSet.rg {a b c : Int} (h : GoodSet a b c) : RgT (a, b, c) := ⟨rg_wf h.1, rg_wf h.2.1, rg_wf h.2.2⟩
end Go.Proofs.YtpphcfkldhemeaaDoor.B
namespace Go.Proofs.YtpphcfkldhemeaaDoor.B
open Go.RowKit
set_option linter.unusedVariables false
set_option linter.unusedSimpArgs false
def lowW (l s x : Int) : Int := if l < x then l % s else l
def highW (h s x m : Int) : Int := if x < h ∧ h ≤ m then h + (m - h) / s * s else h
def widT (a b : T3) (m : Int) : T3 :=
  if noB a then b else if inT b a then a else
    ((joinT a b).1, lowW (joinT a b).2.1 (joinT a b).1 a.2.1, highW (joinT a b).2.2 (joinT a b).1 a.2.2 m)
theorem log_lt {x : Int} (h : Rg x) (hx : ¬ x = 0) : x.toNat.log2 < 64 := by
  obtain ⟨h0, h1⟩ := h
  exact (Nat.log2_lt (by omega)).2 (by show _ < 18446744073709551616; omega)
theorem div_mul_le (x s : Int) (hs : 0 < s) : x / s * s ≤ x := Int.ediv_mul_le x (by omega)
theorem lt_div_mul (x s : Int) (hs : 0 < s) : x < x / s * s + s := by
  have := Int.lt_ediv_add_one_mul_self x hs
  rw [Int.add_mul, Int.one_mul] at this
  exact this
theorem div_nn (x s : Int) (hx : 0 ≤ x) (hs : 0 < s) : 0 ≤ x / s := Int.ediv_nonneg hx (by omega)
theorem join_step {a b : T3} (ka : SmT a) (kb : SmT b) (hi : inT b a = false) : 0 < (joinT a b).1 ∧ SmT (joinT a b) := by
  have hj : SmT (joinT a b) := by
    have h := join_ok (.inr ka) (.inr kb)
    exact h.sm (join_no (.inr ka) (.inr kb) ka.no kb.no)
  refine ⟨?_, hj⟩
  have h0 := hj.rg.1.1
  rcases Int.lt_or_eq_of_le h0 with h | h
  · exact h
  · exfalso
    have hin := inT_join1 (.inr ka) (.inr kb)
    have hin2 := inT_join2 (.inr ka) (.inr kb)
    have e1 : a = joinT a b := single_eq ka hj ((inT_iff.1 hin ka.no).2) h.symm
    rw [e1, hin2] at hi
    cases hi
theorem wid_f {a b : T3} (ha : Ok a) (hb : Ok b) (width : Int) (fb : Fits b (maskF width)) : ∃ K, strided_Widen.f K a.1 a.2.1 a.2.2 b.1 b.2.1 b.2.2 width = some (widT a b (maskF width)) := by
  have hm := maskP width
  cases hna : noB a with
  | true =>
    rw [noB_iff] at hna; subst hna
    refine ⟨0, ?_⟩
    unfold strided_Widen.f widT
    show (strided_some.f 0 1 0).bind _ = _
    rw [some_no]
    simp only [Option.bind_some, noB_none, if_true, Bool.false_eq_true, if_false]
    rcases hb with rfl | kb
    · show (strided_seen.f 0 1 0).bind _ = _
      rw [seen_no]; rfl
    · rw [seen_sm kb]; rfl
  | false =>
    have ka := ha.sm hna
    obtain ⟨K, hj⟩ := join_f ha hb
    refine ⟨K, ?_⟩
    unfold strided_Widen.f widT
    rw [some_sm ka, hna]
    simp only [Option.bind_some, if_true, Bool.false_eq_true, if_false]
    rw [in_f hb ha]
    simp only [Option.bind_some]
    cases hi : inT b a with
    | true => simp only [if_true]
    | false =>
      simp only [Bool.false_eq_true, if_false]
      rw [hj]
      simp only [Option.bind_some]
      have kb : SmT b := by
        refine hb.sm ?_
        cases hnb : noB b with
        | false => rfl
        | true => unfold inT at hi; rw [hnb] at hi; cases hi
      obtain ⟨hs, hjs⟩ := join_step ka kb hi
      obtain ⟨⟨k1, k2⟩, ⟨k3, k4⟩, ⟨k5, k6⟩, k7⟩ := hjs.rg
      generalize joinT a b = j at *
      have hmod : Int.tmod j.2.1 j.1 = j.2.1 % j.1 := Int.tmod_eq_emod_of_nonneg k3
      simp only [bits_Mask.f, G.Mask, Option.bind_some]
      have hs' : ¬ j.1 = 0 := by omega
      have hhi : ∀ (h : j.2.2 ≤ maskF width), IntKind.u64.wrap (j.2.2 + IntKind.u64.wrap (IntKind.u64.wrap (Int.tdiv (IntKind.u64.wrap (maskF width - j.2.2)) j.1) * j.1)) = j.2.2 + (maskF width - j.2.2) / j.1 * j.1 := by
        intro h
        have q0 := div_nn (maskF width - j.2.2) j.1 (by omega) hs
        have q1 := div_mul_le (maskF width - j.2.2) j.1 hs
        have q2 : (maskF width - j.2.2) / j.1 ≤ maskF width - j.2.2 := Int.ediv_le_self _ (by omega)
        have hmh := hm.hi
        have q3 : 0 ≤ (maskF width - j.2.2) / j.1 * j.1 := Int.mul_nonneg q0 (by omega)
        rw [wrapU (x := maskF width - j.2.2) (by omega) (by omega), Int.tdiv_eq_ediv_of_nonneg (by omega), wrapU (x := (maskF width - j.2.2) / j.1) q0 (by omega), wrapU (x := (maskF width - j.2.2) / j.1 * j.1) q3 (by omega), wrapU (by omega) (by omega)]
      unfold lowW highW
      rw [if_neg hs', hmod]
      by_cases h1 : j.2.1 < a.2.1
      · rw [if_pos h1, if_pos h1]
        by_cases h2 : j.2.2 > a.2.2
        · rw [if_pos h2]
          by_cases h3 : j.2.2 ≤ maskF width
          · rw [if_pos h3, hhi h3, if_pos ⟨h2, h3⟩]
          · rw [if_neg h3, if_neg (fun h => h3 h.2)]
        · rw [if_neg h2, if_neg (fun h => h2 h.1)]
      · rw [if_neg h1, if_neg h1]
        by_cases h2 : j.2.2 > a.2.2
        · rw [if_pos h2]
          by_cases h3 : j.2.2 ≤ maskF width
          · rw [if_pos h3, if_neg hs', hhi h3, if_pos ⟨h2, h3⟩]
          · rw [if_neg h3, if_neg (fun h => h3 h.2)]
        · rw [if_neg h2, if_neg (fun h => h2 h.1)]
def Phi (a : T3) (m : Int) : Nat :=
  if noB a then 193 else if a.1 = 0 then 192 else 3 * a.1.toNat.log2 + (if a.1 ≤ a.2.1 then 1 else 0) + (if a.1 ≤ m - a.2.2 then 1 else 0)
theorem Phi_le {a : T3} {m : Int} (ha : Ok a) : Phi a m ≤ 193 := by
  unfold Phi
  cases hn : noB a with
  | true => simp
  | false =>
    have k := (ha.sm hn).rg
    simp only [Bool.false_eq_true, if_false]
    split
    · omega
    · have : a.1.toNat.log2 < 64 := log_lt k.1 ‹_›
      split <;> split <;> omega
theorem wid_props {a b : T3} {m : Int} (ha : Ok a) (hb : Ok b) (fa : Fits a m) (fb : Fits b m) (hm : MaskP m) :
    Ok (widT a b m) ∧ Fits (widT a b m) m ∧ inT a (widT a b m) = true ∧ inT b (widT a b m) = true ∧ (widT a b m ≠ a → Phi (widT a b m) m + 1 ≤ Phi a m) := by
  unfold widT
  cases hna : noB a with
  | true =>
    rw [if_pos rfl]
    refine ⟨hb, fb, ?_, inT_refl hb, fun hne => ?_⟩
    · unfold inT; rw [hna]; rfl
    · have hnb : noB b = false := by
        cases hnb : noB b with
        | false => rfl
        | true => rw [noB_iff] at hna hnb; rw [hna, hnb] at hne; exact absurd rfl hne
      unfold Phi
      rw [hna, hnb, if_pos rfl, if_neg (by decide)]
      have k := (hb.sm hnb).rg
      split
      · omega
      · have : b.1.toNat.log2 < 64 := log_lt k.1 ‹_›
        split <;> split <;> omega
  | false =>
    rw [if_neg (by decide)]
    cases hi : inT b a with
    | true =>
      rw [if_pos rfl]
      exact ⟨ha, fa, inT_refl ha, hi, fun h => absurd rfl h⟩
    | false =>
      rw [if_neg (by decide)]
      have ka := ha.sm hna
      have kb : SmT b := by
        refine hb.sm ?_
        cases hnb : noB b with
        | false => rfl
        | true => unfold inT at hi; rw [hnb] at hi; cases hi
      obtain ⟨hs, hjs⟩ := join_step ka kb hi
      have la := fa.le hna
      have lb := fb.le kb.no
      have i1 := (inT_iff.1 (inT_join1 (.inr ka) (.inr kb)) ka.no).2
      have i2 := (inT_iff.1 (inT_join2 (.inr ka) (.inr kb)) kb.no).2
      have hmx : (joinT a b).2.2 = max a.2.2 b.2.2 := by unfold joinT; rw [hna, kb.no]; rfl
      have hmn : (joinT a b).2.1 = min a.2.1 b.2.1 := by unfold joinT; rw [hna, kb.no]; rfl
      have hfull : ¬ ((joinT a b).1 = a.1 ∧ (joinT a b).2.1 = a.2.1 ∧ (joinT a b).2.2 = a.2.2) := by
        rintro ⟨e1, e2, e3⟩
        have e : joinT a b = a := Prod.ext e1 (Prod.ext e2 e3)
        have := inT_join2 (.inr ka) (.inr kb)
        rw [e, hi] at this; cases this
      generalize joinT a b = j at *
      obtain ⟨⟨k1, k2⟩, ⟨k3, k4⟩, ⟨k5, k6⟩, k7⟩ := hjs.rg
      obtain ⟨⟨a1, a2⟩, ⟨a3, a4⟩, ⟨a5, a6⟩, a7⟩ := ka.rg
      have hjm : j.2.2 ≤ m := by omega
      have hmh := hm.hi
      have q0 := div_nn (m - j.2.2) j.1 (by omega) hs
      have q1 := div_mul_le (m - j.2.2) j.1 hs
      have q2 := lt_div_mul (m - j.2.2) j.1 hs
      have q3 : 0 ≤ (m - j.2.2) / j.1 * j.1 := Int.mul_nonneg q0 (by omega)
      have r0 := Int.emod_nonneg j.2.1 (show j.1 ≠ 0 by omega)
      have r1 := Int.emod_lt_of_pos j.2.1 hs
      have r2 : j.2.1 % j.1 ≤ j.2.1 := by
        have e := Int.mul_ediv_add_emod j.2.1 j.1
        have : 0 ≤ j.1 * (j.2.1 / j.1) := Int.mul_nonneg (by omega) (Int.ediv_nonneg k3 (by omega))
        omega
      have L0 : 0 ≤ lowW j.2.1 j.1 a.2.1 ∧ lowW j.2.1 j.1 a.2.1 ≤ j.2.1 ∧ j.1 ∣ j.2.1 - lowW j.2.1 j.1 a.2.1 := by
        unfold lowW
        split
        · exact ⟨r0, r2, Int.dvd_self_sub_emod⟩
        · exact ⟨k3, Int.le_refl _, by rw [Int.sub_self]; exact Int.dvd_zero _⟩
      have H0 : j.2.2 ≤ highW j.2.2 j.1 a.2.2 m ∧ highW j.2.2 j.1 a.2.2 m ≤ m ∧ j.1 ∣ highW j.2.2 j.1 a.2.2 m - j.2.2 := by
        unfold highW
        split
        · refine ⟨by omega, by omega, ?_⟩
          rw [show j.2.2 + (m - j.2.2) / j.1 * j.1 - j.2.2 = (m - j.2.2) / j.1 * j.1 by omega]
          exact Int.dvd_mul_left _ _
        · exact ⟨Int.le_refl _, hjm, by rw [Int.sub_self]; exact Int.dvd_zero _⟩
      have hjh : j.1 ∣ j.2.2 - j.2.1 := hjs.hl
      have hlt : j.2.1 < j.2.2 := by
        rcases hjs.2.2 with ⟨e, -⟩ | ⟨-, h, -⟩
        · omega
        · exact h
      have hwl : lowW j.2.1 j.1 a.2.1 = (if j.2.1 < a.2.1 then j.2.1 % j.1 else j.2.1) := rfl
      have hwh : highW j.2.2 j.1 a.2.2 m = (if a.2.2 < j.2.2 ∧ j.2.2 ≤ m then j.2.2 + (m - j.2.2) / j.1 * j.1 else j.2.2) := rfl
      generalize hL : lowW j.2.1 j.1 a.2.1 = L at *
      generalize hH : highW j.2.2 j.1 a.2.2 m = H at *
      have ko : SmT (j.1, L, H) := by
        refine ⟨L0.1, by show H < _; omega, .inr ⟨hs, by show L < H; omega, ?_⟩⟩
        show j.1 ∣ H - L
        have := add_dvd' (add_dvd' H0.2.2 hjh) L0.2.2
        exact this
      have jo : inP j.1 j.2.1 j.2.2 j.1 L H := ⟨L0.2.1, H0.1, L0.2.2, Int.dvd_refl _⟩
      refine ⟨.inr ko, .inr H0.2.1, inT_iff.2 fun _ => ⟨ko.no, in_trans i1 jo⟩, inT_iff.2 fun _ => ⟨ko.no, in_trans i2 jo⟩, fun _ => ?_⟩
      unfold Phi
      rw [hna, ko.no]
      simp only [Bool.false_eq_true, if_false]
      show (if j.1 = 0 then 192 else 3 * j.1.toNat.log2 + (if j.1 ≤ L then 1 else 0) + (if j.1 ≤ m - H then 1 else 0)) + 1 ≤ _
      rw [if_neg (by omega)]
      by_cases ha0 : a.1 = 0
      · rw [if_pos ha0]
        have : j.1.toNat.log2 < 64 := log_lt ⟨k1, k2⟩ (by omega)
        split <;> split <;> omega
      · rw [if_neg ha0]
        obtain ⟨c, hc⟩ := i1.2.2.2
        have hc0 : 0 < c := by
          rcases Int.lt_or_le 0 c with h | h
          · exact h
          · have : j.1 * c ≤ 0 := Int.mul_nonpos_of_nonneg_of_nonpos (by omega) h
            omega
        rcases Int.lt_or_le 1 c with h1 | h1
        · have h2 : j.1 * 2 ≤ j.1 * c := Int.mul_le_mul_of_nonneg_left (by omega) (by omega)
          have hlog : j.1.toNat.log2 + 1 ≤ a.1.toNat.log2 := by
            rw [← Nat.log2_two_mul (by omega)]
            have : 2 * j.1.toNat ≤ a.1.toNat := by omega
            exact (Nat.le_log2 (by omega)).2 (Nat.le_trans (Nat.log2_self_le (by omega)) this)
          split <;> split <;> split <;> split <;> omega
        · have hc1 : c = 1 := by omega
          rw [hc1, Int.mul_one] at hc
          have hlo : j.2.1 < a.2.1 → j.1 ≤ a.2.1 := by
            intro h
            have := Int.le_of_dvd (by omega) i1.2.2.1
            omega
          rw [hc]
          rw [hc] at hfull
          simp only [true_and] at hfull
          have hb1 := i1.1
          have hb2 := i1.2.1
          by_cases x1 : j.2.1 < a.2.1 <;> by_cases x2 : a.2.2 < j.2.2
          · rw [if_pos x1] at hwl
            rw [if_pos ⟨x2, hjm⟩] at hwh
            rw [if_neg (by omega), if_pos (hlo x1), if_neg (by omega)]
            split <;> omega
          · rw [if_pos x1] at hwl
            rw [if_neg (fun h => x2 h.1)] at hwh
            rw [if_neg (by omega), if_pos (hlo x1)]
            have : j.2.2 = a.2.2 := by omega
            rw [hwh, this]
            split <;> omega
          · rw [if_neg x1] at hwl
            rw [if_pos ⟨x2, hjm⟩] at hwh
            have e : L = a.2.1 := by omega
            have hh : j.1 ≤ j.2.2 - a.2.2 := by
              have hd : j.1 ∣ j.2.2 - a.2.2 := by
                have h1 : j.1 ∣ a.2.2 - a.2.1 := by rw [← hc]; exact ka.hl
                have h2 : j.1 ∣ a.2.2 - j.2.1 := add_dvd' h1 i1.2.2.1
                have h3 : j.1 ∣ j.2.1 - a.2.2 := neg_dvd' h2
                exact add_dvd' hjh h3
              exact Int.le_of_dvd (by omega) hd
            rw [if_neg (show ¬ j.1 ≤ m - H by omega), if_pos (show j.1 ≤ m - a.2.2 by omega), e]
            omega
          · exfalso
            exact hfull ⟨by omega, by omega⟩
theorem wid_again {a b : T3} {m : Int} (h : inT b a = true) (hn : noB a = false) : widT a b m = a := by
  unfold widT
  rw [hn, h]
  rfl
theorem wid_again' {a b : T3} {m : Int} (ha : Ok a) (hb : Ok b) (h : inT b a = true) : widT a b m = a := by
  cases hn : noB a with
  | false => exact wid_again h hn
  | true =>
    have hnb := no_of_in h hn
    rw [noB_iff] at hn hnb
    unfold widT
    rw [hn, hnb]
    rfl
end Go.Proofs.YtpphcfkldhemeaaDoor.B
