import Derived.Test.YtkpkgpopmodagaaIter
import Derived.Shelf.Abstract
namespace Go.Proofs.Ytkpkgpopmodagaa.B
open Go.RowKit Go.Proofs.YtkpkgpopmodagaaW.PrintWords Go.Proofs.YtkpkgpopmodagaaW.PrintLast Go.Proofs.YtkpkgpopmodagaaW.PrintMore Go.RF
set_option linter.unusedVariables false
set_option linter.unusedSimpArgs false
attribute [local go_sem] Oper.semAt_some
attribute [local go_sem] min_three_int

def mostP (l : List S34) (n : Int) : Int := if rightP l then n else 1
def chunksP (l : List S34) (a n perm : Int) : List (Nat × Nat × Nat) := chunks l perm (mostP l n) n.toNat a n
def bytesP (l : List S34) (x : Nat × Nat × Nat) : List Int := ((rd_T34 l (x.1 : Int)).f2.drop x.2.1).take x.2.2
def gatherP (l : List S34) (cs : List (Nat × Nat × Nat)) : List Int := cs.flatMap (bytesP l)

/-- What 'parts' has laid: the five boxes. -/
structure Boxes (B : Nat) (A0 : Option Addr) (c0 : Nat) (l : List S34) (a n perm : Int) (W : World) : Prop where
  bp : W.heap[B]? = some (.cells #[.slice A0 l.length c0] 22 (0, 0))
  ba : W.heap[B + 1]? = some (.cells #[.int .u64 a] 23 (0, 0))
  bn : W.heap[B + 2]? = some (.cells #[.int .i64 n] 3 (0, 0))
  bm : W.heap[B + 3]? = some (.cells #[.int .u8 perm] 5 (0, 0))
  bo : W.heap[B + 4]? = some (.cells #[.int .i64 (mostP l n)] 3 (0, 0))
theorem Boxes.lt {B : Nat} {A0 : Option Addr} {c0 : Nat} {l : List S34} {a n perm : Int} {W : World} (h : Boxes B A0 c0 l a n perm W) : B + 4 < W.heap.size := (Array.getElem?_eq_some_iff.1 h.bo).1
theorem heap_below {w w1 : World} (hb : Below w.heap.size w w1) {k : Nat} {o : Obj} (h : w.heap[k]? = some o) : w1.heap[k]? = some o := (hb.block k (Array.getElem?_eq_some_iff.1 h).1).trans h
theorem heap_alloc_old (w : World) (o : Obj) {o' : Obj} {k : Nat} (h : w.heap[k]? = some o') : (w.alloc o).heap[k]? = some o' := heap_below (below_alloc (Below.refl _ w) o) h

set_option maxRecDepth 100000 in
theorem parts_calls (A0 : Option Addr) (c0 : Nat) (l : List S34) (a n perm : Int) (w : World) (hr0 : Kd.C k34 w A0 l.length l) :
    Calls Try.prog 26 #[.slice A0 l.length c0, .int .u64 a, .int .i64 n, .int .u8 perm] w fun e w' =>
      e = .returned (.func (.func 36) #[] #[.pointer (some ⟨w.heap.size + 2, 0, none⟩), .pointer (some ⟨w.heap.size, 0, none⟩), .pointer (some ⟨w.heap.size + 1, 0, none⟩), .pointer (some ⟨w.heap.size + 3, 0, none⟩), .pointer (some ⟨w.heap.size + 4, 0, none⟩)]) ∧
      Boxes w.heap.size A0 c0 l a n perm w' ∧ Below w.heap.size w w' := by
  have HR := Aside0.mk hr0
  clear hr0
  go_enter Try.func26, Try.ntmps26
  go_wp2_with fail
  have b0 := World.alloc_heap_new w (.cells #[.slice A0 l.length c0] 22)
  have b1 := World.alloc_heap_new (w.alloc (.cells #[.slice A0 l.length c0] 22)) (.cells #[.int .u64 a] 23)
  have b2 := World.alloc_heap_new ((w.alloc (.cells #[.slice A0 l.length c0] 22)).alloc (.cells #[.int .u64 a] 23)) (.cells #[.int .i64 n] 3)
  have b3 := World.alloc_heap_new (((w.alloc (.cells #[.slice A0 l.length c0] 22)).alloc (.cells #[.int .u64 a] 23)).alloc (.cells #[.int .i64 n] 3)) (.cells #[.int .u8 perm] 5)
  have b4 := World.alloc_heap_new ((((w.alloc (.cells #[.slice A0 l.length c0] 22)).alloc (.cells #[.int .u64 a] 23)).alloc (.cells #[.int .i64 n] 3)).alloc (.cells #[.int .u8 perm] 5)) (.cells #[.int .i64 1] 3)
  simp only [World.size_alloc] at b0 b1 b2 b3 b4
  have hbl : Below w.heap.size w (((((w.alloc (.cells #[.slice A0 l.length c0] 22)).alloc (.cells #[.int .u64 a] 23)).alloc (.cells #[.int .i64 n] 3)).alloc (.cells #[.int .u8 perm] 5)).alloc (.cells #[.int .i64 1] 3)) := by
    repeat (first | exact Below.refl _ _ | apply below_alloc)
  replace b3 := heap_alloc_old _ (.cells #[.int .i64 1] 3) b3
  replace b2 := heap_alloc_old _ (.cells #[.int .i64 1] 3) (heap_alloc_old _ (.cells #[.int .u8 perm] 5) b2)
  replace b1 := heap_alloc_old _ (.cells #[.int .i64 1] 3) (heap_alloc_old _ (.cells #[.int .u8 perm] 5) (heap_alloc_old _ (.cells #[.int .i64 n] 3) b1))
  replace b0 := heap_alloc_old _ (.cells #[.int .i64 1] 3) (heap_alloc_old _ (.cells #[.int .u8 perm] 5) (heap_alloc_old _ (.cells #[.int .i64 n] 3) (heap_alloc_old _ (.cells #[.int .u64 a] 23) b0)))
  generalize (((((w.alloc (.cells #[.slice A0 l.length c0] 22)).alloc (.cells #[.int .u64 a] 23)).alloc (.cells #[.int .i64 n] 3)).alloc (.cells #[.int .u8 perm] 5)).alloc (.cells #[.int .i64 1] 3)) = W5 at *
  refine (right_calls A0 c0 l W5 (Kd.C_below HR.out hbl)).mono ?_
  rintro e w1 ⟨rfl, hb⟩
  replace b0 := heap_below hb b0
  replace b1 := heap_below hb b1
  replace b2 := heap_below hb b2
  replace b3 := heap_below hb b3
  replace b4 := heap_below hb b4
  have HB := Aside0.mk (below_step hbl hb)
  have c2 := (cell_of_block b2).1
  have c4 := (cell_of_block b4).1
  have f4 := (cell_of_block b4).2
  have BB := Aside0.mk (show Boxes w.heap.size A0 c0 l a n perm w1 ∨ rightP l = true ∨ True from .inr (.inr trivial))
  clear BB hb hbl
  have G0 := Aside0.mk b0
  have G1 := Aside0.mk b1
  have G2 := Aside0.mk b2
  have G3 := Aside0.mk b3
  have G4 := Aside0.mk b4
  clear b0 b1 b2 b3 b4
  cases hr : rightP l
  · go_wp2
    go_ret
    refine ⟨rfl, ⟨G0.out, G1.out, G2.out, G3.out, ?_⟩, HB.out⟩
    rw [show mostP l n = 1 by simp [mostP, hr]]
    exact G4.out
  · go_wp2
    go_ret
    refine ⟨rfl, ⟨blk_other G0.out (by omega) _, blk_other G1.out (by omega) _, blk_other G2.out (by omega) _, blk_other G3.out (by omega) _, ?_⟩, HB.out.setCell (by show w.heap.size ≤ w.heap.size + 1 + 1 + 1 + 1; omega) _⟩
    rw [show mostP l n = n by simp [mostP, hr]]
    exact blk_store G4.out _

theorem addr_add_add (ad : Addr) (i j : Nat) : (ad.add i).add j = ad.add (i + j) := by
  unfold Addr.add
  by_cases hi : i = 0
  · simp [hi]
  · by_cases hj : j = 0
    · simp [hj]
    · rw [if_neg hi, if_neg hj, if_neg (by omega)]
      simp [Nat.add_assoc]
theorem bytesP_get (l : List S34) (x : Nat × Nat × Nat) (j : Nat) (hj : j < x.2.2) (hx : x.2.1 + x.2.2 ≤ (rd_T34 l (x.1 : Int)).f2.length) : (bytesP l x)[j]? = some ((rd_T34 l (x.1 : Int)).f2.getD (x.2.1 + j) 0) := by
  unfold bytesP
  rw [List.getElem?_take, if_pos hj, List.getElem?_drop, List.getD_eq_getElem?_getD, List.getElem?_eq_getElem (by omega)]
  rfl
/-- What may be said of a part: its page is there, and it lies within. -/
theorem chunks_in (l : List S34) (perm most : Int) (hlen : ∀ x ∈ l, x.f2.length ≤ 9223372036854775807) : ∀ (f : Nat) (a n : Int), (0 < n → 1 ≤ most) → ∀ x ∈ chunks l perm most f a n, x.1 < l.length ∧ x.2.1 < (rd_T34 l (x.1 : Int)).f2.length ∧ x.2.1 + x.2.2 ≤ (rd_T34 l (x.1 : Int)).f2.length
  | 0, _, _, _, x, h => by simp [chunks] at h
  | f + 1, a, n, hm, x, h => by
    unfold chunks at h
    split at h
    · cases h
    split at h
    · cases h
    split at h
    · cases h
    rename_i h1 h2 h3
    rcases findP_range l a with hi | ⟨j, hj, hi, hp⟩
    · omega
    rw [hi] at h
    have hpg : (rd_T34 l (j : Int)).f0 ≤ a ∧ IntKind.u64.wrap (a - (rd_T34 l (j : Int)).f0) < IntKind.u64.wrap ((rd_T34 l (j : Int)).f2.length : Int) := by simpa [onPage] using hp
    have hl := hlen (rd_T34 l (j : Int)) (by
      have : rd_T34 l (j : Int) = l[j] := by simp [rd_T34, List.getD_eq_getElem?_getD, List.getElem?_eq_getElem hj]
      rw [this]; exact List.getElem_mem hj)
    have hwl : IntKind.u64.wrap ((rd_T34 l (j : Int)).f2.length : Int) = ((rd_T34 l (j : Int)).f2.length : Int) := by unfold IntKind.wrap; simp [IntKind.signed, IntKind.bits]; omega
    have hw0 : 0 ≤ IntKind.u64.wrap (a - (rd_T34 l (j : Int)).f0) := by unfold IntKind.wrap; simp [IntKind.signed, IntKind.bits]; omega
    rw [hwl] at hpg
    rcases List.mem_cons.1 h with h | h
    · subst h
      simp only [Int.toNat_natCast]
      refine ⟨hj, ?_, ?_⟩ <;> omega
    · exact chunks_in l perm most hlen f _ _ (fun h => hm (by omega)) x h
theorem chunks_sum (l : List S34) (perm most : Int) : ∀ (f : Nat) (a n : Int), ((chunks l perm most f a n).map (·.2.2)).sum ≤ n.toNat
  | 0, _, _ => by simp [chunks]
  | f + 1, a, n => by
    unfold chunks
    split
    · simp
    split
    · simp
    split
    · simp
    have := chunks_sum l perm most f (IntKind.u64.wrap (a + (min (min ((rd_T34 l (findP l a)).f2.length - (IntKind.u64.wrap (a - (rd_T34 l (findP l a)).f0)).toNat) n.toNat) most.toNat : Nat))) (n - (min (min ((rd_T34 l (findP l a)).f2.length - (IntKind.u64.wrap (a - (rd_T34 l (findP l a)).f0)).toNat) n.toNat) most.toNat : Nat))
    simp only [List.map_cons, List.sum_cons]
    omega
theorem gather_length (l : List S34) : ∀ (cs : List (Nat × Nat × Nat)), (gatherP l cs).length ≤ (cs.map (·.2.2)).sum
  | [] => by simp [gatherP]
  | x :: r => by
    have := gather_length l r
    unfold gatherP at this ⊢
    simp only [List.flatMap_cons, List.length_append, List.map_cons, List.sum_cons]
    have h2 : (bytesP l x).length ≤ x.2.2 := by unfold bytesP; exact List.length_take_le _ _
    omega
/-- What is owned, as the print tells it. -/
theorem R_of_own {k : IntKind} {e : Nat} {W : World} {base : Nat} {v : Value} {xs : List Int} (h : W.ownsRow base e 1 v xs.length (nums k xs)) : Kd.R (Kd.int k) e W base (fun _ => True) v xs :=
  ⟨fun _ _ => trivial, nums k xs, h, by simp [nums, Kd.int, Kd.scalar], fun j p hj => by
    show ((nums k xs).drop (j * 1)).take 1 = [Value.int k p]
    rw [Nat.mul_one]
    have hjl := (List.getElem?_eq_some_iff.1 hj).1
    rw [List.drop_eq_getElem_cons (by simpa [nums] using hjl)]
    simp [nums, (List.getElem?_eq_some_iff.1 hj).2]⟩

set_option maxHeartbeats 8000000 in
set_option maxRecDepth 100000 in
theorem gathered_calls (A0 : Option Addr) (c0 : Nat) (l : List S34) (a n perm : Int) (w : World) (hr0 : Kd.C k34 w A0 l.length l) (hnn : n ≤ 1000000000) :
    Calls Try.prog 25 #[.slice A0 l.length c0, .int .u64 a, .int .i64 n, .int .u8 perm] w fun e w' =>
      ∃ v, e = .returned v ∧ Kd.R (Kd.int .u8) 5 w' w.heap.size (fun _ => True) v (gatherP l (chunksP l a n perm)) ∧ Below w.heap.size w w' := by
  have HR := Aside0.mk hr0
  clear hr0
  refine calls_of_marks Try.func25 rfl ?_
  simp only [Try.ntmps25, List.size_toArray, List.length_cons, List.length_nil, Nat.reduceAdd, Nat.reduceSub, Array.replicate_succ, Array.replicate_zero, List.push_toArray, List.append_toArray, List.nil_append, List.cons_append]
  go_wp2_with fail
  have b0 := World.alloc_heap_new w (.cells #[.slice none 0 0] 24)
  have hbl : Below w.heap.size w (w.alloc (.cells #[.slice none 0 0] 24)) := below_alloc (Below.refl _ _) _
  have hsz : (w.alloc (.cells #[.slice none 0 0] 24)).heap.size = w.heap.size + 1 := World.size_alloc _ _
  generalize w.alloc (.cells #[.slice none 0 0] 24) = w1 at *
  refine (parts_calls A0 c0 l a n perm w1 (Kd.C_below HR.out hbl)).mono ?_
  rintro e w2 ⟨rfl, hbx, hb⟩
  replace b0 := heap_below hb b0
  replace hbl := below_step hbl hb
  have hs2 : w.heap.size + 6 ≤ w2.heap.size := by have := hbx.lt; omega
  rw [hsz] at hbx ⊢
  go_wp2_with fail
  obtain ⟨hs, hH, hD⟩ := HC.of HR.out
  have hlt0 : ∀ k, 0 < l.length → headsAt A0 k → k < w.heap.size := fun k hp h => hH.lt hp k h
  have hmany := hH.rows
  refine wp_range_plain (α := Nat × Nat × Nat) (gf := 36) rfl (enters_of Try.func36 (by kernel_rfl) rfl) (encs := encP hs) (Q := fun k => k = w.heap.size + 1 + 2 ∨ k = w.heap.size + 1 + 1) (R := fun k => k = w.heap.size) (L := chunksP l a n perm)
    (fun W hk => parts_iter _ _ _ _ _ A0 c0 l hs perm (mostP l n) n a W _ (hk.at_ hbx.bn (by simp)) (hk.at_ hbx.bp (by simp)) (hk.at_ hbx.ba (by simp)) (hk.at_ hbx.bm (by simp)) (hk.at_ hbx.bo (by simp)) (by omega)
      ((hH.below hbl).below (hk.below (Nat.le_refl _) (by simp))) (fun k hp h => by have := hlt0 k hp h; have := hk.size; omega) (fun k h => by subst h; refine ⟨by omega, by omega, by omega, by omega, by omega, fun hp h => ?_⟩; have := hlt0 _ hp h; omega) (by omega)
      (fun hp => by unfold mostP; split <;> omega))
    (fun k h => by omega) (fun k h => by omega) (fun _ => rfl)
    (fun pre W => Below w.heap.size w W ∧ ∃ v, W.heap[w.heap.size]? = some (.cells #[v] 24 (0, 0)) ∧ W.ownsRow (w2.heap.size + 2) 5 1 v (gatherP l pre).length (nums .u8 (gatherP l pre)))
    (fun _ _ _ => False)
    (fun s A B hs' hk => ⟨hs'.1.trans (hk.below hs'.1.size (fun k hk' h => by omega)), by
      obtain ⟨v, h1, h2⟩ := hs'.2
      exact ⟨v, hk.at_ h1 (by omega), own_move h2 (fun k hk' => hk.block k (own_lt h2 k hk') (by have := own_base h2 k hk'; omega))⟩⟩)
    (fun _ _ _ _ h _ => h.elim) ⟨hbl, _, b0, own_nil _ _ _ _⟩
    (fun x => { tmps := #[.slice A0 l.length c0, .int .u64 a, .int .i64 n, .int .u8 perm, undef, undef, undef, undef, .pointer (some ⟨w.heap.size, 0, none⟩), .slice ((hs x.1).1.map (·.add x.2.1)) x.2.2 ((hs x.1).2 - x.2.1), .slice A0 l.length c0, .int .u64 a, .int .i64 n, .int .u8 perm,
      .func (.func 36) #[] #[.pointer (some ⟨w.heap.size + 1 + 2, 0, none⟩), .pointer (some ⟨w.heap.size + 1, 0, none⟩), .pointer (some ⟨w.heap.size + 1 + 1, 0, none⟩), .pointer (some ⟨w.heap.size + 1 + 3, 0, none⟩), .pointer (some ⟨w.heap.size + 1 + 4, 0, none⟩)],
      .slice ((hs x.1).1.map (·.add x.2.1)) x.2.2 ((hs x.1).2 - x.2.1), undef, undef, undef, undef], defers := [] }) ?assign ?body ?done ?stop
  case assign =>
    intro lp x W K hK
    simp only [encP]
    gi_wp2
    exact hK
  case stop =>
    intro c pre suf W _ h _
    exact h.elim
  case done =>
    rintro W ⟨hB, v, h1, h2⟩ hd
    obtain ⟨Av, cv, rfl⟩ := own_slice h2
    have c1 := (cell_of_block h1).1
    have f1 := (cell_of_block h1).2
    have HB := Aside0.mk hB
    have H1 := Aside0.mk h1
    have H2 := Aside0.mk h2
    have HDD := Aside0.mk hd
    clear hB h1 h2 hd
    go_wp2
    have h1' := blk_store H1.out (Value.slice Av (gatherP l (chunksP l a n perm)).length cv)
    refine leave_mark (D := w2.heap.size) (v := .slice Av (gatherP l (chunksP l a n perm)).length cv) rfl ((Below.heap_setCell W _ _ w2.heap.size (by show w2.heap.size ≠ w.heap.size; omega)).trans HDD.out) ?_ ?_
    · have hc := (cell_of_block ((World.putObj_heap_other (r := w2.heap.size) (o := .deferred none) (by omega)).trans h1')).1
      simp [results, Try.f25, go_sem, hc]
    · have hkp : Keeps (fun k => k = w.heap.size ∨ k = w2.heap.size) W ((W.setCell ⟨w.heap.size, 0, none⟩ (.slice Av (gatherP l (chunksP l a n perm)).length cv)).putObj w2.heap.size (.deferred none)) :=
        ((Keeps.refl _ _).setCell _ _ (.inl rfl)).putObj _ _ (.inr rfl)
      refine ⟨_, rfl, R_of_own (own_less (own_move H2.out (fun k hk => hkp.block k (own_lt H2.out k hk) (by have := own_base H2.out k hk; omega))) (by omega)), HB.out.trans (hkp.below HB.out.size (fun k hk h => by omega))⟩
  case body =>
    rintro lp pre x suf W hL hsz' ⟨hB, v, h1, h2⟩
    obtain ⟨Av, cv, rfl⟩ := own_slice h2
    have hmem : x ∈ chunks l perm (mostP l n) n.toNat a n := by
      show x ∈ chunksP l a n perm
      rw [hL]; simp
    obtain ⟨hx1, hx2, hx3⟩ := chunks_in l perm (mostP l n) (fun y hy => by obtain ⟨j, hj, e⟩ := List.mem_iff_getElem.1 hy; exact (hmany j y (by rw [List.getElem?_eq_getElem hj, e])).2.1) n.toNat a n (fun hp => by unfold mostP; split <;> omega) x hmem
    have hxj : l[x.1]? = some (rd_T34 l (x.1 : Int)) := by simp [rd_T34, List.getD_eq_getElem?_getD, List.getElem?_eq_getElem hx1]
    obtain ⟨ad2, hA2⟩ := (hmany _ _ hxj).2.2 (by omega)
    have hdata := Kd.C_below (hD _ _ hxj) hB
    have hbl2 : (bytesP l x).length = x.2.2 := by unfold bytesP; rw [List.length_take, List.length_drop]; omega
    have hcells : ∀ (j : Nat) (u : Value), (nums .u8 (bytesP l x))[j]? = some u → W.cell? ((ad2.add x.2.1).add j) = some u := by
      intro j u hu
      have hj : j < x.2.2 := by have := (List.getElem?_eq_some_iff.1 hu).1; rw [nums_length, hbl2] at this; exact this
      have hu' : u = .int .u8 ((rd_T34 l (x.1 : Int)).f2.getD (x.2.1 + j) 0) := by
        rw [nums, List.getElem?_map, bytesP_get l x j hj hx3] at hu
        simpa using hu.symm
      obtain ⟨ad', e, hc⟩ := (Kd.reads_of_C (enc := Value.int .u8) (d := (0 : Int)) (h1 := fun _ => rfl) hdata).2.2 (by omega)
      rw [hA2] at e
      injection e with e
      subst e
      have := hc (x.2.1 + j) (by omega)
      rw [hu', ← this]
      rw [addr_add_add]
    have htot : (gatherP l pre).length + x.2.2 ≤ 1000000000 := by
      have h1 := chunks_sum l perm (mostP l n) n.toNat a n
      have h2 : chunks l perm (mostP l n) n.toNat a n = pre ++ x :: suf := hL
      rw [h2] at h1
      simp only [List.map_append, List.map_cons, List.sum_append, List.sum_cons] at h1
      have h3 := gather_length l pre
      omega
    rw [hA2]
    simp only [Option.map_some]
    have c1 := (cell_of_block h1).1
    have f1 := (cell_of_block h1).2
    have HB := Aside0.mk hB
    have H1 := Aside0.mk h1
    obtain ⟨i0, hi, hzz⟩ := Option.map_eq_some_iff.1 info5
    simp only [Prod.mk.injEq] at hzz
    obtain ⟨hz0, hz1, hz2⟩ := hzz
    have HBL2 := Aside0.mk hbl2
    clear hB h1 hdata hxj hmem hL hD hmany hA2 hbl2 hH hbx b0
    have hne : ∀ k, (Value.slice Av (gatherP l pre).length cv).ownBlock = some k → k ≠ w.heap.size := fun k hk => by have := own_base h2 k hk; omega
    gi_wp2_with (gi_at_builtin; go_loud (refine wpListIn_append_own _ rfl _ _ 24 rfl (w2.heap.size + 2) 5 i0 (.int .u8 0) 1 1 Try.underlying24 hi hz0 hz1 hz2 rfl (by decide) (.slice Av (gatherP l pre).length cv) (gatherP l pre).length (nums .u8 (gatherP l pre)) rfl h2 (ad2.add x.2.1) x.2.2 _ (nums .u8 (bytesP l x)) rfl ?c1 hcells ?c2 ?c3 ?c4 ?c5 ?_))
    case c1 => rw [nums_length, HBL2.out, Nat.mul_one]
    case c2 => intro u hu; obtain ⟨y, _, rfl⟩ := List.mem_map.1 hu; rfl
    case c3 => unfold maxLen; omega
    case c4 => omega
    case c5 => exact hsz'
    intro v' W' hown' hgrow _
    obtain ⟨A', c', rfl⟩ := own_slice hown'
    have h1' := (hgrow.block w.heap.size (Array.getElem?_eq_some_iff.1 H1.out).1 (fun e => hne _ e.symm rfl)).trans H1.out
    have c1' := (cell_of_block h1').1
    have f1' := (cell_of_block h1').2
    have H1' := Aside0.mk h1'
    have HO' := Aside0.mk hown'
    have HG' := Aside0.mk hgrow
    have HO := Aside0.mk h2
    clear h1' hown' hgrow c1 f1 hne h2
    gi_wp2
    have hkp : Keeps (fun k => k = w.heap.size ∨ w2.heap.size + 2 ≤ k) W (W'.setCell ⟨w.heap.size, 0, none⟩ (.slice A' ((gatherP l pre).length + x.2.2) c')) :=
      Keeps.setCell (Keeps.of_grown HG'.out (fun k e => .inr (own_base HO.out k e))) _ _ (.inl rfl)
    have hlen : (gatherP l (pre ++ [x])).length = (gatherP l pre).length + x.2.2 := by unfold gatherP; rw [List.flatMap_append, List.length_append]; simp [HBL2.out]
    refine ⟨hkp, HB.out.trans (hkp.below HB.out.size (fun k hk h => by omega)), _, blk_store H1'.out _, ?_⟩
    rw [hlen, show gatherP l (pre ++ [x]) = gatherP l pre ++ bytesP l x by unfold gatherP; rw [List.flatMap_append]; simp, nums_append]
    exact own_move HO'.out (fun k hk => Below.heap_setCell W' _ _ k (by have := own_base HO'.out k hk; show k ≠ w.heap.size; omega))
end Go.Proofs.Ytkpkgpopmodagaa.B
