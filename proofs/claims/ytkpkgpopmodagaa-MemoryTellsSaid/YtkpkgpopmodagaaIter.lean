import Derived.Test.YtkpkgpopmodagaaParts
import Derived.Sort.QuietIn
import Derived.RegionTactic
import Derived.ChangeAlike
import Derived.Deep.CutRange
import Derived.Deep.DeepCutAuto
import Derived.Deep.CutBlock
namespace Go.Proofs.Ytkpkgpopmodagaa.B
open Go.RowKit Go.Proofs.YtkpkgpopmodagaaW.PrintWords Go.Proofs.YtkpkgpopmodagaaW.PrintLast Go.Proofs.YtkpkgpopmodagaaW.PrintMore Go.RF
set_option linter.unusedVariables false
set_option linter.unusedSimpArgs false
attribute [local go_sem] Oper.semAt_some
def mn3 (a b c : Int) : Int := if c < (if b < a then b else a) then c else (if b < a then b else a)
theorem min_three_int (ats : Array TypeId) (ty : TypeId) (k k' k'' : IntKind) (a b c : Int) : Builtin.min_ ats ty #[.int k a, .int k' b, .int k'' c] = pure (.int k (mn3 a b c)) := by
  simp only [min_three, min2_int, mn3, pure_bind]
theorem mn3_nat (a : Nat) (b c : Int) (hb : 0 ≤ b) (hc : 0 ≤ c) : mn3 (a : Int) b c = ((min (min a b.toNat) c.toNat : Nat) : Int) := by unfold mn3; split <;> split <;> omega
attribute [local go_sem] min_three_int

/-- The parts of pages that so many bytes are: which page, from where in it, how many. -/
def chunks (l : List S34) (perm most : Int) : Nat → Int → Int → List (Nat × Nat × Nat)
  | 0, _, _ => []
  | f + 1, a, n => if n ≤ 0 then [] else if findP l a < 0 then [] else if Go.bits .and .u8 (rd_T34 l (findP l a)).f1 perm = 0 then [] else
    ((findP l a).toNat, (IntKind.u64.wrap (a - (rd_T34 l (findP l a)).f0)).toNat, min (min ((rd_T34 l (findP l a)).f2.length - (IntKind.u64.wrap (a - (rd_T34 l (findP l a)).f0)).toNat) n.toNat) most.toNat) ::
      chunks l perm most f (IntKind.u64.wrap (a + (min (min ((rd_T34 l (findP l a)).f2.length - (IntKind.u64.wrap (a - (rd_T34 l (findP l a)).f0)).toNat) n.toNat) most.toNat : Nat))) (n - (min (min ((rd_T34 l (findP l a)).f2.length - (IntKind.u64.wrap (a - (rd_T34 l (findP l a)).f0)).toNat) n.toNat) most.toNat : Nat))
def encP (hs : Nat → Option Addr × Nat) (x : Nat × Nat × Nat) : Array Value := #[.slice ((hs x.1).1.map (·.add x.2.1)) x.2.2 ((hs x.1).2 - x.2.1)]
/-- the number in a box -/
def nOf (b : Nat) (W : World) : Nat := match W.cell? ⟨b, 0, none⟩ with | some (.int _ n) => n.toNat | _ => 0

theorem firstAt_range (p : S34 → Bool) : ∀ (l : List S34) (k : Nat), firstAt p l k = -1 ∨ ∃ j, j < l.length ∧ firstAt p l k = ((k + j : Nat) : Int) ∧ ∃ x, l[j]? = some x ∧ p x = true
  | [], k => .inl rfl
  | x :: r, k => by
    unfold firstAt
    by_cases h : p x = true
    · exact .inr ⟨0, by simp, by simp [h], x, rfl, h⟩
    · rcases firstAt_range p r (k + 1) with h1 | ⟨j, hj, h1, y, hy, hp⟩
      · exact .inl (by simp [h, h1])
      · exact .inr ⟨j + 1, by simp; omega, by rw [if_neg h, h1]; congr 1; omega, y, by simpa using hy, hp⟩
theorem findP_range (l : List S34) (a : Int) : findP l a = -1 ∨ ∃ j : Nat, j < l.length ∧ findP l a = (j : Int) ∧ onPage a (rd_T34 l (j : Int)) = true := by
  rcases firstAt_range (onPage a) l 0 with h | ⟨j, hj, h, x, hx, hp⟩
  · exact .inl h
  · refine .inr ⟨j, hj, by unfold findP; rw [h]; simp, ?_⟩
    have : rd_T34 l (j : Int) = x := by simp [rd_T34, List.getD_eq_getElem?_getD, hx]
    rw [this]
    exact hp
theorem blk_store {W : World} {b : Nat} {v : Value} {t : Nat} (h : W.heap[b]? = some (.cells #[v] t (0, 0))) (u : Value) : (W.setCell ⟨b, 0, none⟩ u).heap[b]? = some (.cells #[u] t (0, 0)) := by
  obtain ⟨hb, e⟩ := Array.getElem?_eq_some_iff.1 h
  show (W.heap.modify b _)[b]? = _
  rw [Array.getElem?_modify, h]
  simp
theorem blk_other {W : World} {b b' : Nat} {o : Obj} (h : W.heap[b]? = some o) (hne : b ≠ b') (u : Value) : (W.setCell ⟨b', 0, none⟩ u).heap[b]? = some o := (Below.heap_setCell W _ u b hne).trans h
theorem cell_of_block {W : World} {b : Nat} {v : Value} {t : Nat} (h : W.heap[b]? = some (.cells #[v] t (0, 0))) : W.cell? ⟨b, 0, none⟩ = some v ∧ W.frozen? ⟨b, 0, none⟩ = false := by
  unfold World.cell? World.frozen?
  simp [h]
set_option maxHeartbeats 8000000 in
set_option maxRecDepth 100000 in
theorem parts_iter (bn bp ba bm bo : Nat) (A0 : Option Addr) (c0 : Nat) (l : List S34) (hs : Nat → Option Addr × Nat) (perm most n a : Int) (W : World) (R : Nat → Prop)
    (hn : W.heap[bn]? = some (.cells #[.int .i64 n] 3 (0, 0))) (hp : W.heap[bp]? = some (.cells #[.slice A0 l.length c0] 22 (0, 0))) (ha : W.heap[ba]? = some (.cells #[.int .u64 a] 23 (0, 0)))
    (hm : W.heap[bm]? = some (.cells #[.int .u8 perm] 5 (0, 0))) (ho : W.heap[bo]? = some (.cells #[.int .i64 most] 3 (0, 0)))
    (hne : bn ≠ ba ∧ bn ≠ bp ∧ bn ≠ bm ∧ bn ≠ bo ∧ ba ≠ bp ∧ ba ≠ bm ∧ ba ≠ bo) (hH : HC W A0 l hs) (hHb : ∀ k, 0 < l.length → headsAt A0 k → k < W.heap.size ∧ k ≠ bn ∧ k ≠ ba)
    (hR : ∀ k, R k → k ≠ bn ∧ k ≠ bp ∧ k ≠ ba ∧ k ≠ bm ∧ k ≠ bo ∧ (0 < l.length → ¬ headsAt A0 k)) (hn1 : n ≤ 9223372036854775807) (hmost : 0 < n → 1 ≤ most) :
    Iter Try.prog 36 #[.pointer (some ⟨bn, 0, none⟩), .pointer (some ⟨bp, 0, none⟩), .pointer (some ⟨ba, 0, none⟩), .pointer (some ⟨bm, 0, none⟩), .pointer (some ⟨bo, 0, none⟩)]
      (encP hs) (fun k => k = bn ∨ k = ba) R (chunks l perm most n.toNat a n) W := by
  intro lp J Jx hJ hJx hY h0
  refine callsIn_wide.2 ?_
  simp only [List.append_toArray, List.cons_append, List.nil_append]
  have hsz : bn < W.heap.size ∧ bp < W.heap.size ∧ ba < W.heap.size ∧ bm < W.heap.size ∧ bo < W.heap.size :=
    ⟨(Array.getElem?_eq_some_iff.1 hn).1, (Array.getElem?_eq_some_iff.1 hp).1, (Array.getElem?_eq_some_iff.1 ha).1, (Array.getElem?_eq_some_iff.1 hm).1, (Array.getElem?_eq_some_iff.1 ho).1⟩
  have HY := Aside0.mk hY
  have HHH := Aside0.mk hH
  have HHB := Aside0.mk hHb
  have HRR := Aside0.mk hR
  clear hY hH hHb hR
  go_enter Try.func36, Try.ntmps36
  go_wp2_with fail
  go_loopw [] (fun wr => ∃ (pre suf : List (Nat × Nat × Nat)) (m b : Int) (f : Nat), chunks l perm most n.toNat a n = pre ++ suf ∧ suf = chunks l perm most f b m ∧ m.toNat ≤ f ∧ m ≤ n ∧ wr.heap[bn]? = some (.cells #[.int .i64 m] 3 (0, 0)) ∧ wr.heap[ba]? = some (.cells #[.int .u64 b] 23 (0, 0)) ∧
    J pre wr ∧ Keeps (fun k => k = bn ∨ k = ba ∨ R k ∨ W.heap.size ≤ k) W wr) (fun wr => nOf bn wr)
  case atStart => exact ⟨[], _, n, a, _, rfl, rfl, Nat.le_refl _, Int.le_refl _, hn, ha, h0, Keeps.refl _ _⟩
  case round =>
    obtain ⟨pre, suf, m, b, f, hL, hsuf, hmf, hmn, hn', ha', hj, hk⟩ := hrel
    have hp' := hk.at_ hp (fun h => by rcases h with h | h | h | h <;> first | omega | exact (HRR.out _ h).2.1 rfl)
    have hm' := hk.at_ hm (fun h => by rcases h with h | h | h | h <;> first | omega | exact (HRR.out _ h).2.2.2.1 rfl)
    have ho' := hk.at_ ho (fun h => by rcases h with h | h | h | h <;> first | omega | exact (HRR.out _ h).2.2.2.2.1 rfl)
    have hH' : HC wr A0 l hs := HHH.out.keep (fun hp0 k h => hk.block k (HHB.out k hp0 h).1 (fun h1 => by have h2 := HHB.out k hp0 h; rcases h1 with h1 | h1 | h1 | h1 <;> first | exact h2.2.1 h1 | exact h2.2.2 h1 | exact (HRR.out _ h1).2.2.2.2.2 hp0 h | omega))
    have HL := Aside0.mk hL
    have HS := Aside0.mk hsuf
    have HJ' := Aside0.mk hj
    have HK := Aside0.mk hk
    have HH' := Aside0.mk hH'
    have cn := (cell_of_block hn').1
    have cp := (cell_of_block hp').1
    have ca := (cell_of_block ha').1
    have cm := (cell_of_block hm').1
    have co := (cell_of_block ho').1
    have B1 := Aside0.mk hn'
    have B3 := Aside0.mk ha'
    clear hL hsuf hj hk hH' hn' hp' ha' hm' ho' hn hp ha hm ho
    by_cases hm0 : m ≤ 0
    · go_wp2
      go_end0
      refine ⟨⟨_, rfl⟩, .inl ?_⟩
      have e : chunks l perm most f b m = [] := by cases f <;> simp [chunks, hm0]
      rw [HL.out, HS.out, e, List.append_nil]
      exact HJ'.out
    · go_wp2_with fail
      refine (find_heads A0 c0 l hs b _ HH'.out).mono ?_
      rintro e w1 ⟨rfl, hb⟩
      obtain ⟨f, rfl⟩ : ∃ g, f = g + 1 := ⟨f - 1, by omega⟩
      have stop : chunks l perm most (f + 1) b m = [] → (∃ v, Ending.returned (.tuple #[]) = Ending.returned v) ∧ (∀ W2, Keeps (fun k => k = bn ∨ k = ba) wr W2 → (J (chunks l perm most n.toNat a n) W2)) := fun h => ⟨⟨_, rfl⟩, fun W2 h2 => by rw [HL.out, HS.out, h, List.append_nil]; exact hJ _ _ _ HJ'.out h2⟩
      have STOP := Aside0.mk stop
      clear stop
      have cn1 := pw_cell_below hb cn
      have cp1 := pw_cell_below hb cp
      have ca1 := pw_cell_below hb ca
      have cm1 := pw_cell_below hb cm
      have co1 := pw_cell_below hb co
      have HH1 := Aside0.mk (HH'.out.below hb)
      have HB := Aside0.mk hb
      clear cn cp ca cm co hb
      rcases findP_range l b with hi | ⟨j, hj, hi, hpage⟩
      · have HI := Aside0.mk hi
        rw [hi]
        clear hi
        go_wp2_with fail
        go_quiet (fail)
        go_wp2
        refine bodyPost_ret (results_none rfl _ _ _) rfl ?_
        have E : chunks l perm most (f + 1) b m = [] := by rw [chunks, HI.out]; simp
        exact ⟨⟨_, rfl⟩, .inl ((STOP.out E).2 _ (Keeps.drewN (.of_below HB.out (fun _ h _ => h)) _))⟩
      · have HI := Aside0.mk hi
        rw [hi]
        clear hi
        obtain ⟨ad, e, h1, h2, h3⟩ := HH1.out.at_ j hj
        obtain ⟨r1, r2, r3⟩ := HH1.out.rows j (rd_T34 l (j : Int)) (by simp [rd_T34, List.getD_eq_getElem?_getD, List.getElem?_eq_getElem hj])
        have HX := Aside0.mk (show findP l b = (j : Int) from HI.out)
        subst e
        generalize hx : rd_T34 l (j : Int) = x at *
        by_cases hperm : Go.bits .and .u8 x.f1 perm = 0
        · have e1 : (Go.bits .and .u8 x.f1 perm == 0) = true := by simpa using hperm
          have HP := Aside0.mk hperm
          have HXX := Aside0.mk hx
          clear hperm hx
          go_wp2_with fail
          go_quiet (fail)
          go_wp2
          refine bodyPost_ret (results_none rfl _ _ _) rfl ?_
          have E : chunks l perm most (f + 1) b m = [] := by rw [chunks, HI.out, HXX.out, if_pos HP.out]; simp
          exact ⟨⟨_, rfl⟩, .inl ((STOP.out E).2 _ (Keeps.drewN (.of_below HB.out (fun _ h _ => h)) _))⟩
        · have e1 : (Go.bits .and .u8 x.f1 perm == 0) = false := by simpa using hperm
          have HP := Aside0.mk hperm
          have HXX := Aside0.mk hx
          clear hperm hx STOP
          go_wp2_with fail
          go_quiet (fail)
          obtain ⟨n1, rfl⟩ : ∃ n1, n1 = nq := ⟨_, rfl⟩
          go_wp2_with fail
          have hpg : x.f0 ≤ b ∧ IntKind.u64.wrap (b - x.f0) < IntKind.u64.wrap (x.f2.length : Int) := by simpa [onPage] using hpage
          have hwl : IntKind.u64.wrap (x.f2.length : Int) = (x.f2.length : Int) := by unfold IntKind.wrap; simp [IntKind.signed, IntKind.bits]; omega
          have hw0 : 0 ≤ IntKind.u64.wrap (b - x.f0) := by unfold IntKind.wrap; simp [IntKind.signed, IntKind.bits]; omega
          rw [hwl] at hpg
          obtain ⟨o, hw⟩ : ∃ o : Nat, IntKind.u64.wrap (b - x.f0) = (o : Int) := ⟨(IntKind.u64.wrap (b - x.f0)).toNat, by omega⟩
          have hol : o < x.f2.length := by have := hpg.2; omega
          obtain ⟨ad2, hA2⟩ := r3 (by omega)
          clear hpg hwl hw0 hpage
          generalize hc : (hs j).2 = cc at *
          have HCC := Aside0.mk hc
          have HA2 := Aside0.mk hA2
          clear hc
          obtain ⟨c, hcd⟩ : ∃ c, c = min (min (x.f2.length - o) m.toNat) most.toNat := ⟨_, rfl⟩
          have hmn3 : mn3 ((x.f2.length - o : Nat) : Int) m most = (c : Int) := by rw [hcd]; exact mn3_nat _ _ _ (by omega) (by have := hmost (by omega); omega)
          have hc1 : 1 ≤ c ∧ c ≤ x.f2.length - o ∧ (c : Int) ≤ m := by have := hmost (by omega); omega
          have E : chunks l perm most (f + 1) b m = (j, o, c) :: chunks l perm most f (IntKind.u64.wrap (b + c)) (m - c) := by
            rw [chunks, if_neg (by omega), HI.out, if_neg (by omega), HXX.out, if_neg HP.out, hw]
            simp only [Int.toNat_natCast, ← hcd]
          have HE := Aside0.mk E
          have HCD := Aside0.mk hcd
          clear E hcd
          go_quiet (fail)
          obtain ⟨n2, rfl⟩ : ∃ n2, n2 = nq := ⟨_, rfl⟩
          go_upto_region 5 with (fail)
          refine (wpIn_wide (n := 0)).1 ?_
          obtain ⟨yf, ytmps, yassign, ybody, hy, hround⟩ := HY.out pre (j, o, c) (chunks l perm most f (IntKind.u64.wrap (b + c)) (m - c)) (w1.drewN (n1 + n2)) (by rw [HL.out, HS.out, HE.out]) (hJ _ _ _ HJ'.out (Keeps.drewN (.of_below HB.out (fun _ h _ => h)) _))
          simp only [encP, HA2.out, HCC.out, Option.map_some] at hy
          gi_wp2
          refine ⟨rfl, hround.mono ?_⟩
          rintro e W3 (⟨rfl, hJ3, hk3⟩ | ⟨rfl, hJx3⟩)
          · have hk3' : Keeps (fun k => k = bn ∨ k = ba ∨ R k ∨ W.heap.size ≤ k) wr W3 := Keeps.trans (Keeps.drewN (.of_below HB.out (fun _ h _ => h)) _) (hk3.mono (fun k _ h => by rcases h with h | h <;> simp [h]))
            have notIn : ∀ k, k < W.heap.size → k = bn ∨ k = ba → ¬ (R k ∨ W.heap.size ≤ k) := fun k hk h1 h2 => by
              rcases h2 with h2 | h2
              · have := HRR.out k h2; omega
              · omega
            have hdr : Keeps (fun k => R k ∨ W.heap.size ≤ k) wr W3 := Keeps.trans (Keeps.drewN (.of_below HB.out (fun _ h _ => h)) _) hk3
            have hn3 := hdr.at_ B1.out (notIn _ (by omega) (.inl rfl))
            have ha3 := hdr.at_ B3.out (notIn _ (by omega) (.inr rfl))
            have cn3 := (cell_of_block hn3).1
            have ca3 := (cell_of_block ha3).1
            have fn3 := (cell_of_block hn3).2
            have fa3 := (cell_of_block ha3).2
            have BN3 := Aside0.mk hn3
            have BA3 := Aside0.mk ha3
            have HJ3 := Aside0.mk hJ3
            have HK3 := Aside0.mk hk3'
            clear hn3 ha3 hJ3 hk3' hk3 hdr notIn hround hy
            gi_wp2
            go_wp2_with fail
            go_region
            go_wp2
            have k1 := blk_store (blk_other BN3.out hne.1 (.int .u64 (IntKind.u64.wrap (b + ↑c)))) (.int .i64 (m - ↑c))
            have k2 := blk_other (blk_store BA3.out (.int .u64 (IntKind.u64.wrap (b + ↑c)))) (Ne.symm hne.1) (.int .i64 (m - ↑c))
            refine ⟨⟨pre ++ [(j, o, c)], chunks l perm most f (IntKind.u64.wrap (b + c)) (m - c), m - c, IntKind.u64.wrap (b + c), f, by rw [HL.out, HS.out, HE.out]; simp, rfl, by omega, by omega, k1, k2, ?_, ?_⟩, ?_⟩
            · exact hJ _ _ _ HJ3.out (Keeps.drew (((Keeps.refl _ _).setCell _ _ (.inr rfl)).setCell _ _ (.inl rfl)))
            · exact HK.out.trans (Keeps.trans HK3.out (Keeps.drew (((Keeps.refl _ _).setCell _ _ (.inr (.inl rfl))).setCell _ _ (.inl rfl))))
            · have e1 := (cell_of_block k1).1
              have e0 := (cell_of_block B1.out).1
              show nOf bn (((W3.setCell _ _).setCell _ _)) < nOf bn wr
              unfold nOf
              rw [e1, e0]
              show (m - (c : Int)).toNat < m.toNat
              omega
          · gi_wp2
            go_wp2
            refine bodyPost_ret (results_none rfl _ _ _) rfl ?_
            exact ⟨⟨_, rfl⟩, .inr ⟨pre ++ [(j, o, c)], chunks l perm most f (IntKind.u64.wrap (b + c)) (m - c), by rw [HL.out, HS.out, HE.out]; simp, hJx3⟩⟩
end Go.Proofs.Ytkpkgpopmodagaa.B
