/- An operand's address. The law's check at constants. What the printed texts are given: contracts of cpu.Cond, cpu.Packed, cpu.Unpacked, and of the law's check at constants. -/
import Derived.Test.YtpmclnlgipphmaaDoorBq5
import Derived.Test.YtpmclnlgipphmaaDoorBq6
import Derived.Test.YtpmclnlgipphmaaDoorBq7
import Derived.Test.YtpmclnlgipphmaaDoorBq8
import Derived.Test.YtpmclnlgipphmaaDoorBq3
namespace Go.Proofs.YtpmclnlgipphmaaDoor.B
open Go.RowKit Go.Proofs.YtpmclnlgipphmaaDoorW.PrintWords Go.Proofs.YtpmclnlgipphmaaDoorW.PrintMore Go.RF
set_option linter.unusedVariables false
set_option linter.unusedSimpArgs false
attribute [local go_sem] Oper.semAt_some
def partL (base idx sc dp nx xb xi : Int) (rip : Bool) : List Int :=
  [IntKind.u64.wrap dp] ++ (if rip = true then [nx] else []) ++ (if 0 ≤ base then [xb] else []) ++ (if 0 ≤ idx then [IntKind.u64.wrap (xi * IntKind.u64.wrap sc)] else [])
theorem parts_iter (bo bn bc : Nat) (k R base idx sc dp im nx xb xi : Int) (rip : Bool) (cs : Array Value) (W : World) (Z : Nat → Prop) (hb16 : base < 16) (hi16 : idx < 16) (hrip : rip = true → base < 0 ∧ idx < 0)
    (hxb : 0 ≤ base → cs[base.toNat]? = some (.int .u64 xb)) (hxi : 0 ≤ idx → cs[idx.toNat]? = some (.int .u64 xi))
    (ho : W.heap[bo]? = some (.cells #[.int .u8 k, .int .i64 R, .int .i64 base, .int .i64 idx, .int .i64 sc, .int .i64 dp, .bool rip, .int .i64 im] 36 (0, 0))) (hn : W.heap[bn]? = some (.cells #[.int .u64 nx] 22 (0, 0))) (hc : W.heap[bc]? = some (.cells cs 29 (0, 0))) (hZ : ∀ j, Z j → j ≠ bo ∧ j ≠ bn ∧ j ≠ bc) :
    IterT Tryd.prog 23 #[.pointer (some ⟨bo, 0, none⟩), .pointer (some ⟨bn, 0, none⟩), .pointer (some ⟨bc, 0, none⟩)] encU (fun _ => False) Z (partL base idx sc dp nx xb xi rip) W := by
  unfold partL
  cases rip with
  | true =>
    obtain ⟨h1, h2⟩ := hrip rfl
    rw [if_pos rfl, if_neg (by omega), if_neg (by omega)]
    exact parts_r bo bn bc k R base idx sc dp im nx _ xb xi _ cs W Z h1 h2 rfl rfl hxb hxi ho hn hc hZ
  | false =>
    rw [if_neg (by decide)]
    by_cases hb : 0 ≤ base
    · obtain ⟨jb, rfl⟩ := Int.eq_ofNat_of_zero_le hb
      by_cases hi : 0 ≤ idx
      · obtain ⟨ji, rfl⟩ := Int.eq_ofNat_of_zero_le hi
        rw [if_pos hb, if_pos hi]
        exact parts_bi bo bn bc k R sc dp im nx _ xb xi _ jb ji cs W Z (by omega) (by omega) rfl rfl hxb hxi ho hn hc hZ
      · rw [if_pos hb, if_neg hi]
        exact parts_b bo bn bc k R idx sc dp im nx _ xb xi _ jb cs W Z (by omega) (by omega) rfl rfl hxb hxi ho hn hc hZ
    · by_cases hi : 0 ≤ idx
      · obtain ⟨ji, rfl⟩ := Int.eq_ofNat_of_zero_le hi
        rw [if_neg hb, if_pos hi]
        exact parts_i bo bn bc k R base sc dp im nx _ xb xi _ ji cs W Z (by omega) (by omega) rfl rfl hxb hxi ho hn hc hZ
      · rw [if_neg hb, if_neg hi]
        exact parts_0 bo bn bc k R base idx sc dp im nx _ xb xi _ cs W Z (by omega) (by omega) rfl rfl hxb hxi ho hn hc hZ
set_option maxRecDepth 100000 in
theorem parts_calls (cs : Array Value) (k R base idx sc dp im nx : Int) (rip : Bool) (w : World) :
    Calls Tryd.prog 19 #[.agg cs, .agg #[.int .u8 k, .int .i64 R, .int .i64 base, .int .i64 idx, .int .i64 sc, .int .i64 dp, .bool rip, .int .i64 im], .int .u64 nx] w fun e w' =>
      e = .returned (.func (.func 23) #[] #[.pointer (some ⟨w.heap.size + 1, 0, none⟩), .pointer (some ⟨w.heap.size + 2, 0, none⟩), .pointer (some ⟨w.heap.size, 0, none⟩)])
      ∧ w'.heap[w.heap.size]? = some (.cells cs 29 (0, 0)) ∧ w'.heap[w.heap.size + 1]? = some (.cells #[.int .u8 k, .int .i64 R, .int .i64 base, .int .i64 idx, .int .i64 sc, .int .i64 dp, .bool rip, .int .i64 im] 36 (0, 0)) ∧ w'.heap[w.heap.size + 2]? = some (.cells #[.int .u64 nx] 22 (0, 0)) ∧ Below w.heap.size w w' := by
  go_enter Tryd.func19, Tryd.ntmps19
  go_wp2_with fail
  go_ret
  have h0 := World.alloc_heap_new w (.cells cs 29)
  have h1 := World.alloc_heap_new (w.alloc (.cells cs 29)) (.cells #[.int .u8 k, .int .i64 R, .int .i64 base, .int .i64 idx, .int .i64 sc, .int .i64 dp, .bool rip, .int .i64 im] 36)
  have h2 := World.alloc_heap_new ((w.alloc (.cells cs 29)).alloc (.cells #[.int .u8 k, .int .i64 R, .int .i64 base, .int .i64 idx, .int .i64 sc, .int .i64 dp, .bool rip, .int .i64 im] 36)) (.cells #[.int .u64 nx] 22)
  rw [World.size_alloc] at h1
  rw [World.size_alloc, World.size_alloc] at h2
  refine ⟨rfl, ?_, ?_, h2, bX_ (bX_ (bX_ (Below.refl _ _) _) _) _⟩
  · exact (Below.heap_alloc _ _ _ (by rw [World.size_alloc, World.size_alloc]; omega)).trans ((Below.heap_alloc _ _ _ (by rw [World.size_alloc]; omega)).trans h0)
  · exact (Below.heap_alloc _ _ _ (by rw [World.size_alloc, World.size_alloc]; omega)).trans h1
def sumL (l : List Int) : Int := l.foldl (fun a x => IntKind.u64.wrap (a + x)) 0
theorem sumL_snoc (l : List Int) (x : Int) : sumL (l ++ [x]) = IntKind.u64.wrap (sumL l + x) := by
  unfold sumL
  rw [List.foldl_append]
  rfl
theorem results_a {T : Array Value} {W : World} {b : Nat} {v : Value} (h : W.heap[b]? = some (.cells #[v] 22 (0, 0))) (ht : T.getD 6 undef = .pointer (some ⟨b, 0, none⟩)) :
    (results Tryd.f9 T).run Tryd.prog W = .ok (.tuple #[v, T.getD 7 undef]) W := by
  have q := (cell_of_block h).1
  have hu := Tryd.underlying22
  have ht1 : T[6]?.getD undef = .pointer (some ⟨b, 0, none⟩) := by rw [← ht]; simp
  simp only [results, show Tryd.f9.results = #[.cell 6 22, .tmp 7] from rfl]
  simp [go_sem, ht1, q]
set_option maxHeartbeats 8000000 in
set_option maxRecDepth 100000 in
theorem address_ok (cs : Array Value) (R base idx sc dp im nx xb xi : Int) (rip : Bool) (w : World) (hsz : cs.size = 278) (hright : operand_Right.f 2 2 R base idx sc dp rip im = some true) (hb16 : base < 16) (hi16 : idx < 16) (hrip : rip = true → base < 0 ∧ idx < 0)
    (hxb : 0 ≤ base → cs[base.toNat]? = some (.int .u64 xb)) (hxi : 0 ≤ idx → cs[idx.toNat]? = some (.int .u64 xi)) :
    Calls Tryd.prog 9 #[.agg cs, .agg #[.int .u8 2, .int .i64 R, .int .i64 base, .int .i64 idx, .int .i64 sc, .int .i64 dp, .bool rip, .int .i64 im], .int .u64 nx] w fun e w' =>
      e = .returned (.tuple #[.int .u64 (sumL (partL base idx sc dp nx xb xi rip)), .int .i64 0]) ∧ Below w.heap.size w w' := by
  have hu36 := Tryd.underlying36
  have hu29 := Tryd.underlying29
  have HRT := Aside0.mk hright
  have HPI := fun bo bn bc W Z => parts_iter bo bn bc 2 R base idx sc dp im nx xb xi rip cs W Z hb16 hi16 hrip hxb hxi
  have HP := Aside0.mk HPI
  have HIN : Aside0 ((Tryd.prog.info? 29).map (·.size) = some cs.size) := ⟨by rw [hsz]; exact size29⟩
  clear hright hb16 hi16 hrip hxb hxi HPI hsz
  obtain ⟨PL, hPL⟩ : ∃ l, partL base idx sc dp nx xb xi rip = l := ⟨_, rfl⟩
  rw [hPL] at HP ⊢
  clear hPL
  refine calls_of_end Tryd.func9 rfl ?_
  simp only [Tryd.ntmps9, List.size_toArray, List.length_cons, List.length_nil, Nat.reduceAdd, Nat.reduceSub, Array.replicate_succ, Array.replicate_zero, List.push_toArray, List.append_toArray, List.nil_append, List.cons_append]
  go_upto_region 1 with (fail)
  have b0 := World.alloc_heap_new w (.cells cs 29)
  have b1 := World.alloc_heap_new (w.alloc (.cells cs 29)) (.cells #[.int .u8 2, .int .i64 R, .int .i64 base, .int .i64 idx, .int .i64 sc, .int .i64 dp, .bool rip, .int .i64 im] 36)
  have b2 := World.alloc_heap_new ((w.alloc (.cells cs 29)).alloc (.cells #[.int .u8 2, .int .i64 R, .int .i64 base, .int .i64 idx, .int .i64 sc, .int .i64 dp, .bool rip, .int .i64 im] 36)) (.cells #[.int .u64 0] 22)
  rw [World.size_alloc] at b1
  rw [World.size_alloc, World.size_alloc] at b2
  have b0' := (Below.heap_alloc ((w.alloc (.cells cs 29)).alloc (.cells #[.int .u8 2, .int .i64 R, .int .i64 base, .int .i64 idx, .int .i64 sc, .int .i64 dp, .bool rip, .int .i64 im] 36)) (.cells #[.int .u64 0] 22) _ (by rw [World.size_alloc, World.size_alloc]; omega)).trans ((Below.heap_alloc (w.alloc (.cells cs 29)) (.cells #[.int .u8 2, .int .i64 R, .int .i64 base, .int .i64 idx, .int .i64 sc, .int .i64 dp, .bool rip, .int .i64 im] 36) _ (by rw [World.size_alloc]; omega)).trans b0)
  have b1' := (Below.heap_alloc ((w.alloc (.cells cs 29)).alloc (.cells #[.int .u8 2, .int .i64 R, .int .i64 base, .int .i64 idx, .int .i64 sc, .int .i64 dp, .bool rip, .int .i64 im] 36)) (.cells #[.int .u64 0] 22) _ (by rw [World.size_alloc, World.size_alloc]; omega)).trans b1
  have hbl : Below w.heap.size w (((w.alloc (.cells cs 29)).alloc (.cells #[.int .u8 2, .int .i64 R, .int .i64 base, .int .i64 idx, .int .i64 sc, .int .i64 dp, .bool rip, .int .i64 im] 36)).alloc (.cells #[.int .u64 0] 22)) := bX_ (bX_ (bX_ (Below.refl _ _) _) _) _
  have B0 := Aside0.mk b0'
  have B1 := Aside0.mk b1'
  have B2 := Aside0.mk b2
  have HB := Aside0.mk hbl
  clear b0 b1 b2 b0' b1' hbl
  generalize (((w.alloc (.cells cs 29)).alloc (.cells #[.int .u8 2, .int .i64 R, .int .i64 base, .int .i64 idx, .int .i64 sc, .int .i64 dp, .bool rip, .int .i64 im] 36)).alloc (.cells #[.int .u64 0] 22)) = w1 at *
  obtain ⟨o0, o1, o2, o3, o4, o5, o6, o7⟩ := rows8 B1.out
  go_upto_region 3 with (first | (go_at_call 18; refine (operand_Right.calls 2 2 R base idx sc dp rip im true w1 HRT.out).mono ?_; rintro e w2 ⟨rfl, hb2⟩))
  have B02 := Aside0.mk (blk_below B0.out hb2)
  have B12 := Aside0.mk (blk_below B1.out hb2)
  have B22 := Aside0.mk (blk_below B2.out hb2)
  have HB2 := Aside0.mk (HB.out.trans (hb2.mono HB.out.size))
  clear B0 B1 B2 HB hb2 o0 o1 o2 o3 o4 o5 o6 o7
  obtain ⟨o0, o1, o2, o3, o4, o5, o6, o7⟩ := rows8 B12.out
  go_wp2_with (first | (with_reducible refine wpList_load_row rfl 29 (.tmp 3) rfl w.heap.size rfl 29 cs (0, 0) _ B02.out hu29 rfl HIN.out ?_) | (go_at_call 19; refine (parts_calls cs 2 R base idx sc dp im nx rip w2).mono ?_; rintro e w3 ⟨rfl, p0, p1, p2, hb3⟩; have P0 := Aside0.mk p0; have P1 := Aside0.mk p1; have P2 := Aside0.mk p2; have HB3 := Aside0.mk hb3; clear p0 p1 p2 hb3))
  (try simp only [Act.put, List.setIfInBounds_toArray, List.set_cons_zero, List.set_cons_succ])
  have hl2 : w.heap.size + 1 + 1 < w2.heap.size := blk_lt B22.out
  have hl3 : w2.heap.size + 2 < w3.heap.size := blk_lt P2.out
  have B23 := Aside0.mk (blk_below B22.out HB3.out)
  have HBB := Aside0.mk (HB2.out.trans (HB3.out.mono HB2.out.size))
  refine wp_rangeT (α := Int) (gf := 23) rfl (enters_of Tryd.func23 (by kernel_rfl) rfl) (encs := encU) (Q := fun _ => False) (R := fun k => k = w.heap.size + 1 + 1) (L := PL)
    (fun W hk => HP.out _ _ _ W _ (hk.at_ P1.out (fun h => h)) (hk.at_ P2.out (fun h => h)) (hk.at_ P0.out (fun h => h)) (fun k h => by omega)) (fun k h => h.elim) (fun k h => by omega) (fun _ => rfl)
    (fun pre W => Below w.heap.size w W ∧ W.heap[w.heap.size + 1 + 1]? = some (.cells #[.int .u64 (sumL pre)] 22 (0, 0)))
    (fun s A B hs' hk => ⟨hs'.1.trans (hk.below hs'.1.size (fun k hk' h => by rcases h with h | h; exact h.elim; omega)), hk.at_ hs'.2 (by rintro (h | h); exact h.elim; omega)⟩)
    ⟨HBB.out, B23.out⟩ ?_ ?assign ?body ?done
  case assign =>
    intro lp x W K hK
    simp only [encU]
    gi_wp2
    exact hK
  case done =>
    rintro W ⟨hB, h1⟩ hd
    obtain ⟨c1, f1⟩ := cell_of_block h1
    have HBW := Aside0.mk hB
    have H1 := Aside0.mk h1
    have HDD := Aside0.mk hd
    clear hB h1 hd
    go_wp2
    have hkp : Keeps (fun k => k = w3.heap.size) (W.setCell ⟨w.heap.size + 1 + 1, 0, none⟩ (.int .u64 (sumL PL))) ((W.setCell ⟨w.heap.size + 1 + 1, 0, none⟩ (.int .u64 (sumL PL))).putObj w3.heap.size (.deferred none)) := (Keeps.refl _ _).putObj _ _ rfl
    refine end_mark (D := w3.heap.size) rfl ((Below.heap_setCell W _ _ _ (by show w3.heap.size ≠ w.heap.size + 1 + 1; omega)).trans HDD.out) (results_a (hkp.at_ (blk_store H1.out _) (by omega)) rfl) ⟨rfl, ?_⟩
    exact (HBW.out.trans ((((Keeps.refl (fun k => k = w.heap.size + 1 + 1) W).setCell ⟨w.heap.size + 1 + 1, 0, none⟩ _ rfl).below HBW.out.size (fun k hk h => by omega)))).trans (hkp.below (by rw [World.size_setCell]; exact HBW.out.size) (fun k hk h => by omega))
  case body =>
    rintro lp pre x suf W hLL hsz' ⟨hB, h1⟩
    obtain ⟨c1, f1⟩ := cell_of_block h1
    have hps : sumL (pre ++ [x]) = _ := sumL_snoc pre x
    have HPS := Aside0.mk hps
    have HBW := Aside0.mk hB
    have H1 := Aside0.mk h1
    clear hps hB h1 hLL
    obtain ⟨pk, hpk⟩ : ∃ p, sumL pre = p := ⟨_, rfl⟩
    rw [hpk] at HPS H1 c1
    clear hpk
    gi_wp2
    have hkp : Keeps (fun k => k = w.heap.size + 1 + 1 ∨ w3.heap.size + 2 ≤ k) W (W.setCell ⟨w.heap.size + 1 + 1, 0, none⟩ (.int .u64 (IntKind.u64.wrap (pk + x)))) := (Keeps.refl _ W).setCell _ _ (.inl rfl)
    refine ⟨hkp, HBW.out.trans (hkp.below HBW.out.size (fun k hk h => by omega)), ?_⟩
    rw [HPS.out]
    exact blk_store H1.out _
set_option maxHeartbeats 8000000 in
set_option maxRecDepth 100000 in
theorem address_kind (cs : Array Value) (k R base idx sc dp im nx : Int) (rip : Bool) (w : World) (hk : k ≠ 2) :
    Calls Tryd.prog 9 #[.agg cs, .agg #[.int .u8 k, .int .i64 R, .int .i64 base, .int .i64 idx, .int .i64 sc, .int .i64 dp, .bool rip, .int .i64 im], .int .u64 nx] w fun e w' =>
      e = .returned (.tuple #[.int .u64 0, .int .i64 2]) ∧ Below w.heap.size w w' := by
  have e1 : (k == 2) = false := beq_eq_false_iff_ne.mpr hk
  have e2 : (k != 2) = true := by simp [hk]
  have HK := Aside0.mk hk
  clear hk
  have hu36 := Tryd.underlying36
  refine calls_of_end Tryd.func9 rfl ?_
  simp only [Tryd.ntmps9, List.size_toArray, List.length_cons, List.length_nil, Nat.reduceAdd, Nat.reduceSub, Array.replicate_succ, Array.replicate_zero, List.push_toArray, List.append_toArray, List.nil_append, List.cons_append]
  go_upto_region 1 with (fail)
  have b1 := World.alloc_heap_new (w.alloc (.cells cs 29)) (.cells #[.int .u8 k, .int .i64 R, .int .i64 base, .int .i64 idx, .int .i64 sc, .int .i64 dp, .bool rip, .int .i64 im] 36)
  have b2 := World.alloc_heap_new ((w.alloc (.cells cs 29)).alloc (.cells #[.int .u8 k, .int .i64 R, .int .i64 base, .int .i64 idx, .int .i64 sc, .int .i64 dp, .bool rip, .int .i64 im] 36)) (.cells #[.int .u64 0] 22)
  rw [World.size_alloc] at b1
  rw [World.size_alloc, World.size_alloc] at b2
  have b1' := (Below.heap_alloc ((w.alloc (.cells cs 29)).alloc (.cells #[.int .u8 k, .int .i64 R, .int .i64 base, .int .i64 idx, .int .i64 sc, .int .i64 dp, .bool rip, .int .i64 im] 36)) (.cells #[.int .u64 0] 22) _ (by rw [World.size_alloc, World.size_alloc]; omega)).trans b1
  have hbl : Below w.heap.size w (((w.alloc (.cells cs 29)).alloc (.cells #[.int .u8 k, .int .i64 R, .int .i64 base, .int .i64 idx, .int .i64 sc, .int .i64 dp, .bool rip, .int .i64 im] 36)).alloc (.cells #[.int .u64 0] 22)) := bX_ (bX_ (bX_ (Below.refl _ _) _) _) _
  have B1 := Aside0.mk b1'
  have B2 := Aside0.mk b2
  have HB := Aside0.mk hbl
  clear b1 b2 b1' hbl
  generalize (((w.alloc (.cells cs 29)).alloc (.cells #[.int .u8 k, .int .i64 R, .int .i64 base, .int .i64 idx, .int .i64 sc, .int .i64 dp, .bool rip, .int .i64 im] 36)).alloc (.cells #[.int .u64 0] 22)) = w1 at *
  obtain ⟨o0, o1, o2, o3, o4, o5, o6, o7⟩ := rows8 B1.out
  obtain ⟨c2, f2⟩ := cell_of_block B2.out
  go_wp2_with fail
  have hl1 : w.heap.size + 1 + 1 < w1.heap.size := blk_lt B2.out
  refine end_plain rfl (results_a (blk_store B2.out _) rfl) ⟨rfl, ?_⟩
  exact HB.out.trans (Keeps.below ((Keeps.refl (fun k => k = w.heap.size + 1 + 1) w1).setCell ⟨w.heap.size + 1 + 1, 0, none⟩ _ rfl) (by omega) (fun k hk h => by omega))
end Go.Proofs.YtpmclnlgipphmaaDoor.B
namespace Go.Proofs.YtpmclnlgipphmaaDoor.B
open Go.RowKit Go.Proofs.YtpmclnlgipphmaaDoorW.PrintWords Go.Proofs.YtpmclnlgipphmaaDoorW.PrintLast Go.Proofs.YtpmclnlgipphmaaDoorW.PrintMore
attribute [local go_sem] max2_int min2_int max_two min_two max_three min_three max_four min_four   -- for this text's walks alone
set_option linter.unusedVariables false
set_option linter.unusedSimpArgs false
def sundialref08_Mem.f (a0 : Int) (a1 : Int) : Option (Int × Int × Int × Int × Int × Int × Bool × Int) := some (2, 0, mx a0 (-1), (-1), 1, a1, false, 0)
set_option maxHeartbeats 8000000 in
set_option maxRecDepth 100000 in
theorem sundialref08_Mem.calls (a0 : Int) (a1 : Int) (r1 : Int) (r2 : Int) (r3 : Int) (r4 : Int) (r5 : Int) (r6 : Int) (r7 : Bool) (r8 : Int) (w : World) (h : sundialref08_Mem.f a0 a1 = some (r1, r2, r3, r4, r5, r6, r7, r8)) :
    Calls Tryd.prog 15 #[.int .i64 a0, .int .i64 a1] w fun e w' => e = .returned (.agg #[.int .u8 r1, .int .i64 r2, .int .i64 r3, .int .i64 r4, .int .i64 r5, .int .i64 r6, .bool r7, .int .i64 r8]) ∧ Below w.heap.size w w' := by
  have hu36 := Tryd.underlying36
  have HB := Aside0.mk (Below.refl w.heap.size w)
  have H : (some (2, 0, mx a0 (-1), (-1), 1, a1, false, 0)) = some (r1, r2, r3, r4, r5, r6, r7, r8) := h
  clear h
  obtain ⟨ji3, hji3⟩ : ∃ j_ : Int, (mx a0 (-1)) = j_ := ⟨_, rfl⟩
  replace H : (some (2, 0, ji3, (-1), 1, a1, false, 0)) = some (r1, r2, r3, r4, r5, r6, r7, r8) := by first | (rw [hji3] at H; exact H) | (simp only [hji3] at H ⊢; exact H)
  have hji3_ : (if a0 < (-1) then (-1) else a0) = ji3 := hji3
  simp only [Option.some.injEq, Prod.mk.injEq] at H
  obtain ⟨rfl, rfl, rfl, rfl, rfl, rfl, rfl, rfl⟩ := H
  go_enter Tryd.func15, Tryd.ntmps15
  go_wp2_with (first | ((with_reducible refine gate_dst (N := 4) rfl ?_); refine box_event ?hg (N := 4) ?hd (cs := #[.int .u8 0, .int .i64 0, .int .i64 0, .int .i64 0, .int .i64 0, .int .i64 0, .bool false, .int .i64 0]) (t := 36) ?hr ?_; (case hd => rfl); (case hg => rfl); (case hr => first | (go_simp; done) | (go_simp; rfl)); intro gb113 hg w4 hbox hb; have n0_ := Aside0.mk (below_step (by repeat (first | (with_reducible first | exact HB.out | apply bX_ | apply bW_ | apply bY_) | exact HB.out)) hb); have n1_ := Aside0.mk (hbox); have n2_ := Aside0.mk ((by rw [hg]; exact (below_size (by repeat (first | (with_reducible first | exact HB.out | apply bX_ | apply bW_ | apply bY_) | exact HB.out))) : w.heap.size ≤ gb113)); have n3_ := Aside0.mk ((by rw [hg]; exact (below_size (by repeat (first | (with_reducible first | exact HB.out | apply bX_ | apply bW_ | apply bY_) | exact HB.out))) : w.heap.size ≤ gb113)); clear HB; have HB := n0_; have BK113 := n1_; have GW113 := n2_; have GE113 := n3_; clear n0_ n1_ n2_ n3_; clear hb hbox hg; have hcz5_0 : w4.cell? ⟨gb113, 0, none⟩ = some (.int .u8 0) := (bC_ BK113.out 0).trans rfl; have hcz5_1 : w4.cell? ⟨gb113, 1, none⟩ = some (.int .i64 0) := (bC_ BK113.out 1).trans rfl; have hcz5_2 : w4.cell? ⟨gb113, 2, none⟩ = some (.int .i64 0) := (bC_ BK113.out 2).trans rfl; have hcz5_3 : w4.cell? ⟨gb113, 3, none⟩ = some (.int .i64 0) := (bC_ BK113.out 3).trans rfl; have hcz5_4 : w4.cell? ⟨gb113, 4, none⟩ = some (.int .i64 0) := (bC_ BK113.out 4).trans rfl; have hcz5_5 : w4.cell? ⟨gb113, 5, none⟩ = some (.int .i64 0) := (bC_ BK113.out 5).trans rfl; have hcz5_6 : w4.cell? ⟨gb113, 6, none⟩ = some (.bool false) := (bC_ BK113.out 6).trans rfl; have hcz5_7 : w4.cell? ⟨gb113, 7, none⟩ = some (.int .i64 0) := (bC_ BK113.out 7).trans rfl; have hfz5_0 := bF_ BK113.out 0; have hfz5_1 := bF_ BK113.out 1; have hfz5_2 := bF_ BK113.out 2; have hfz5_3 := bF_ BK113.out 3; have hfz5_4 := bF_ BK113.out 4; have hfz5_5 := bF_ BK113.out 5; have hfz5_6 := bF_ BK113.out 6; have hfz5_7 := bF_ BK113.out 7))
  refine bodyPost_ret (results_cell_row rfl _ _ gb113 36 #[.int .u8 2, .int .i64 0, .int .i64 ji3, .int .i64 (-1), .int .i64 1, .int .i64 a1, .bool false, .int .i64 0] (0, 0) _ rfl (by (with_reducible repeat (first | refine bN_ ?_ _ | refine bD_ ?_ | refine bA_ ?_ _)); refine blk_put (cs := #[.int .u8 2, .int .i64 0, .int .i64 ji3, .int .i64 (-1), .int .i64 1, .int .i64 a1, .bool false, .int .i64 0]) ?_ 7 _ rfl; (with_reducible repeat (first | refine bN_ ?_ _ | refine bD_ ?_ | refine bA_ ?_ _)); refine blk_put (cs := #[.int .u8 2, .int .i64 0, .int .i64 ji3, .int .i64 (-1), .int .i64 1, .int .i64 a1, .bool false, .int .i64 0]) ?_ 6 _ rfl; (with_reducible repeat (first | refine bN_ ?_ _ | refine bD_ ?_ | refine bA_ ?_ _)); refine blk_put (cs := #[.int .u8 2, .int .i64 0, .int .i64 ji3, .int .i64 (-1), .int .i64 1, .int .i64 0, .bool false, .int .i64 0]) ?_ 5 _ rfl; (with_reducible repeat (first | refine bN_ ?_ _ | refine bD_ ?_ | refine bA_ ?_ _)); refine blk_put (cs := #[.int .u8 2, .int .i64 0, .int .i64 ji3, .int .i64 (-1), .int .i64 0, .int .i64 0, .bool false, .int .i64 0]) ?_ 4 _ rfl; (with_reducible repeat (first | refine bN_ ?_ _ | refine bD_ ?_ | refine bA_ ?_ _)); refine blk_put (cs := #[.int .u8 2, .int .i64 0, .int .i64 ji3, .int .i64 0, .int .i64 0, .int .i64 0, .bool false, .int .i64 0]) ?_ 3 _ rfl; (with_reducible repeat (first | refine bN_ ?_ _ | refine bD_ ?_ | refine bA_ ?_ _)); refine blk_put (cs := #[.int .u8 2, .int .i64 0, .int .i64 0, .int .i64 0, .int .i64 0, .int .i64 0, .bool false, .int .i64 0]) ?_ 2 _ rfl; (with_reducible repeat (first | refine bN_ ?_ _ | refine bD_ ?_ | refine bA_ ?_ _)); refine blk_put (cs := #[.int .u8 2, .int .i64 0, .int .i64 0, .int .i64 0, .int .i64 0, .int .i64 0, .bool false, .int .i64 0]) ?_ 1 _ rfl; (with_reducible repeat (first | refine bN_ ?_ _ | refine bD_ ?_ | refine bA_ ?_ _)); refine blk_put (cs := #[.int .u8 0, .int .i64 0, .int .i64 0, .int .i64 0, .int .i64 0, .int .i64 0, .bool false, .int .i64 0]) ?_ 0 _ rfl; (with_reducible repeat (first | refine bN_ ?_ _ | refine bD_ ?_ | refine bA_ ?_ _)); exact BK113.out) Tryd.underlying36 rfl (by kernel_rfl)) rfl ?_
  exact ⟨by first | rfl | (simp [errW_none, errW_some] <;> rfl) | (simp only [← hji3]; first | rfl | (simp [errW_none, errW_some] <;> rfl)) | (simp [*, errW_none, errW_some] <;> rfl), by repeat (first | (with_reducible first | exact HB.out | apply bX_ | apply bW_ | apply bY_ | refine bS_ ?_ GE113.out) | exact HB.out)⟩
def sundialref08_Reg.f (a0 : Int) : Option (Int × Int × Int × Int × Int × Int × Bool × Int) := some (1, a0, (-1), (-1), 0, 0, false, 0)
set_option maxHeartbeats 8000000 in
set_option maxRecDepth 100000 in
theorem sundialref08_Reg.calls (a0 : Int) (r1 : Int) (r2 : Int) (r3 : Int) (r4 : Int) (r5 : Int) (r6 : Int) (r7 : Bool) (r8 : Int) (w : World) (h : sundialref08_Reg.f a0 = some (r1, r2, r3, r4, r5, r6, r7, r8)) :
    Calls Tryd.prog 16 #[.int .i64 a0] w fun e w' => e = .returned (.agg #[.int .u8 r1, .int .i64 r2, .int .i64 r3, .int .i64 r4, .int .i64 r5, .int .i64 r6, .bool r7, .int .i64 r8]) ∧ Below w.heap.size w w' := by
  have hu36 := Tryd.underlying36
  have HB := Aside0.mk (Below.refl w.heap.size w)
  have H : (some (1, a0, (-1), (-1), 0, 0, false, 0)) = some (r1, r2, r3, r4, r5, r6, r7, r8) := h
  clear h
  simp only [Option.some.injEq, Prod.mk.injEq] at H
  obtain ⟨rfl, rfl, rfl, rfl, rfl, rfl, rfl, rfl⟩ := H
  go_enter Tryd.func16, Tryd.ntmps16
  go_wp2_with (first | ((with_reducible refine gate_dst (N := 2) rfl ?_); refine box_event ?hg (N := 2) ?hd (cs := #[.int .u8 0, .int .i64 0, .int .i64 0, .int .i64 0, .int .i64 0, .int .i64 0, .bool false, .int .i64 0]) (t := 36) ?hr ?_; (case hd => rfl); (case hg => rfl); (case hr => first | (go_simp; done) | (go_simp; rfl)); intro gb114 hg w2 hbox hb; have n0_ := Aside0.mk (below_step (by repeat (first | (with_reducible first | exact HB.out | apply bX_ | apply bW_ | apply bY_) | exact HB.out)) hb); have n1_ := Aside0.mk (hbox); have n2_ := Aside0.mk ((by rw [hg]; exact (below_size (by repeat (first | (with_reducible first | exact HB.out | apply bX_ | apply bW_ | apply bY_) | exact HB.out))) : w.heap.size ≤ gb114)); have n3_ := Aside0.mk ((by rw [hg]; exact (below_size (by repeat (first | (with_reducible first | exact HB.out | apply bX_ | apply bW_ | apply bY_) | exact HB.out))) : w.heap.size ≤ gb114)); clear HB; have HB := n0_; have BK114 := n1_; have GW114 := n2_; have GE114 := n3_; clear n0_ n1_ n2_ n3_; clear hb hbox hg; have hcz3_0 : w2.cell? ⟨gb114, 0, none⟩ = some (.int .u8 0) := (bC_ BK114.out 0).trans rfl; have hcz3_1 : w2.cell? ⟨gb114, 1, none⟩ = some (.int .i64 0) := (bC_ BK114.out 1).trans rfl; have hcz3_2 : w2.cell? ⟨gb114, 2, none⟩ = some (.int .i64 0) := (bC_ BK114.out 2).trans rfl; have hcz3_3 : w2.cell? ⟨gb114, 3, none⟩ = some (.int .i64 0) := (bC_ BK114.out 3).trans rfl; have hcz3_4 : w2.cell? ⟨gb114, 4, none⟩ = some (.int .i64 0) := (bC_ BK114.out 4).trans rfl; have hcz3_5 : w2.cell? ⟨gb114, 5, none⟩ = some (.int .i64 0) := (bC_ BK114.out 5).trans rfl; have hcz3_6 : w2.cell? ⟨gb114, 6, none⟩ = some (.bool false) := (bC_ BK114.out 6).trans rfl; have hcz3_7 : w2.cell? ⟨gb114, 7, none⟩ = some (.int .i64 0) := (bC_ BK114.out 7).trans rfl; have hfz3_0 := bF_ BK114.out 0; have hfz3_1 := bF_ BK114.out 1; have hfz3_2 := bF_ BK114.out 2; have hfz3_3 := bF_ BK114.out 3; have hfz3_4 := bF_ BK114.out 4; have hfz3_5 := bF_ BK114.out 5; have hfz3_6 := bF_ BK114.out 6; have hfz3_7 := bF_ BK114.out 7))
  refine bodyPost_ret (results_cell_row rfl _ _ gb114 36 #[.int .u8 1, .int .i64 a0, .int .i64 (-1), .int .i64 (-1), .int .i64 0, .int .i64 0, .bool false, .int .i64 0] (0, 0) _ rfl (by (with_reducible repeat (first | refine bN_ ?_ _ | refine bD_ ?_ | refine bA_ ?_ _)); refine blk_put (cs := #[.int .u8 1, .int .i64 a0, .int .i64 (-1), .int .i64 (-1), .int .i64 0, .int .i64 0, .bool false, .int .i64 0]) ?_ 7 _ rfl; (with_reducible repeat (first | refine bN_ ?_ _ | refine bD_ ?_ | refine bA_ ?_ _)); refine blk_put (cs := #[.int .u8 1, .int .i64 a0, .int .i64 (-1), .int .i64 (-1), .int .i64 0, .int .i64 0, .bool false, .int .i64 0]) ?_ 6 _ rfl; (with_reducible repeat (first | refine bN_ ?_ _ | refine bD_ ?_ | refine bA_ ?_ _)); refine blk_put (cs := #[.int .u8 1, .int .i64 a0, .int .i64 (-1), .int .i64 (-1), .int .i64 0, .int .i64 0, .bool false, .int .i64 0]) ?_ 5 _ rfl; (with_reducible repeat (first | refine bN_ ?_ _ | refine bD_ ?_ | refine bA_ ?_ _)); refine blk_put (cs := #[.int .u8 1, .int .i64 a0, .int .i64 (-1), .int .i64 (-1), .int .i64 0, .int .i64 0, .bool false, .int .i64 0]) ?_ 4 _ rfl; (with_reducible repeat (first | refine bN_ ?_ _ | refine bD_ ?_ | refine bA_ ?_ _)); refine blk_put (cs := #[.int .u8 1, .int .i64 a0, .int .i64 (-1), .int .i64 0, .int .i64 0, .int .i64 0, .bool false, .int .i64 0]) ?_ 3 _ rfl; (with_reducible repeat (first | refine bN_ ?_ _ | refine bD_ ?_ | refine bA_ ?_ _)); refine blk_put (cs := #[.int .u8 1, .int .i64 a0, .int .i64 0, .int .i64 0, .int .i64 0, .int .i64 0, .bool false, .int .i64 0]) ?_ 2 _ rfl; (with_reducible repeat (first | refine bN_ ?_ _ | refine bD_ ?_ | refine bA_ ?_ _)); refine blk_put (cs := #[.int .u8 1, .int .i64 0, .int .i64 0, .int .i64 0, .int .i64 0, .int .i64 0, .bool false, .int .i64 0]) ?_ 1 _ rfl; (with_reducible repeat (first | refine bN_ ?_ _ | refine bD_ ?_ | refine bA_ ?_ _)); refine blk_put (cs := #[.int .u8 0, .int .i64 0, .int .i64 0, .int .i64 0, .int .i64 0, .int .i64 0, .bool false, .int .i64 0]) ?_ 0 _ rfl; (with_reducible repeat (first | refine bN_ ?_ _ | refine bD_ ?_ | refine bA_ ?_ _)); exact BK114.out) Tryd.underlying36 rfl (by kernel_rfl)) rfl ?_
  exact ⟨by first | rfl | (simp [errW_none, errW_some] <;> rfl) | (simp [*, errW_none, errW_some] <;> rfl), by repeat (first | (with_reducible first | exact HB.out | apply bX_ | apply bW_ | apply bY_ | refine bS_ ?_ GE114.out) | exact HB.out)⟩
end Go.Proofs.YtpmclnlgipphmaaDoor.B
namespace Go.Proofs.YtpmclnlgipphmaaDoor.B
open Go.RowKit Go.Proofs.YtpmclnlgipphmaaDoorW.PrintWords Go.Proofs.YtpmclnlgipphmaaDoorW.PrintMore Go.RF
set_option linter.unusedVariables false
set_option linter.unusedSimpArgs false
attribute [local go_sem] Oper.semAt_some
theorem Z29_one : Z29.all (·.oneCell') = true := by kernel_rfl
def C1 : Array Value := Z29.setIfInBounds 3 (.int .u64 1099511627853)
theorem C1_size : C1.size = 278 := by decide +kernel
theorem C1_one : C1.all (·.oneCell') = true := all_set Z29_one 3 rfl
theorem C1_3 : C1[3]? = some (.int .u64 1099511627853) := by kernel_rfl
def D1 : Array Value := C1.setIfInBounds 3 (.int .u64 5)
def E1 : Array Value := C1.setIfInBounds 3 (.int .u64 1099511628031)
theorem D1_3 : D1[3]? = some (.int .u64 5) := by kernel_rfl
theorem E1_3 : E1[3]? = some (.int .u64 1099511628031) := by kernel_rfl
theorem set_d (w : World) : Calls Tryd.prog 7 #[.agg C1, .int .i64 3, .int .i64 4, .int .u64 34359738373] w fun e w' => e = .returned (.agg D1) ∧ Below w.heap.size w w' := by
  have h := set_calls C1 3 4 1099511627853 4294967295 34359738373 3 w C1_size C1_one (by decide +kernel) (by decide) C1_3 (by decide +kernel)
  have e : Go.bits .or .u64 (keepF 4 1099511627853 4294967295) (Go.bits .and .u64 34359738373 4294967295) = 5 := by decide +kernel
  rw [e] at h
  exact h
theorem set_e (w : World) : Calls Tryd.prog 7 #[.agg C1, .int .i64 3, .int .i64 1, .int .u64 511] w fun e w' => e = .returned (.agg E1) ∧ Below w.heap.size w w' := by
  have h := set_calls C1 3 1 1099511627853 255 511 3 w C1_size C1_one (by decide +kernel) (by decide) C1_3 (by decide +kernel)
  have e : Go.bits .or .u64 (keepF 1 1099511627853 255) (Go.bits .and .u64 511 255) = 1099511628031 := by decide +kernel
  rw [e] at h
  exact h
theorem get_c (w : World) : Calls Tryd.prog 8 #[.agg C1, .int .i64 3, .int .i64 1] w fun e w' => e = .returned (.int .u64 77) ∧ Below w.heap.size w w' := by
  have h := get_calls C1 3 1 1099511627853 255 3 w (by decide +kernel) (by decide) C1_3 (by decide +kernel)
  have e : Go.bits .and .u64 1099511627853 255 = 77 := by decide +kernel
  rw [e] at h
  exact h
theorem addr_c (w : World) : Calls Tryd.prog 9 #[.agg C1, .agg #[.int .u8 2, .int .i64 0, .int .i64 3, .int .i64 (-1), .int .i64 1, .int .i64 (-7), .bool false, .int .i64 0], .int .u64 0] w fun e w' => e = .returned (.tuple #[.int .u64 1099511627846, .int .i64 0]) ∧ Below w.heap.size w w' := by
  have h := address_ok C1 0 3 (-1) 1 (-7) 0 0 1099511627853 0 false w C1_size (by decide +kernel) (by decide) (by decide) (fun h => absurd h (by decide)) (fun _ => C1_3) (fun h => absurd h (by decide))
  have e : sumL (partL 3 (-1) 1 (-7) 0 1099511627853 0 false) = 1099511627846 := by decide +kernel
  rw [e] at h
  exact h
theorem addr_r (w : World) : Calls Tryd.prog 9 #[.agg C1, .agg #[.int .u8 1, .int .i64 3, .int .i64 (-1), .int .i64 (-1), .int .i64 0, .int .i64 0, .bool false, .int .i64 0], .int .u64 0] w fun e w' => e = .returned (.tuple #[.int .u64 0, .int .i64 2]) ∧ Below w.heap.size w w' :=
  address_kind C1 1 3 (-1) (-1) 0 0 0 0 false w (by decide)
theorem mem_c (w : World) : Calls Tryd.prog 15 #[.int .i64 3, .int .i64 (-7)] w fun e w' => e = .returned (.agg #[.int .u8 2, .int .i64 0, .int .i64 3, .int .i64 (-1), .int .i64 1, .int .i64 (-7), .bool false, .int .i64 0]) ∧ Below w.heap.size w w' :=
  sundialref08_Mem.calls 3 (-7) _ _ _ _ _ _ _ _ w (by kernel_rfl)
theorem reg_c (w : World) : Calls Tryd.prog 16 #[.int .i64 3] w fun e w' => e = .returned (.agg #[.int .u8 1, .int .i64 3, .int .i64 (-1), .int .i64 (-1), .int .i64 0, .int .i64 0, .bool false, .int .i64 0]) ∧ Below w.heap.size w w' :=
  sundialref08_Reg.calls 3 _ _ _ _ _ _ _ _ w (by kernel_rfl)
theorem cond_a (w : World) (hT : Tab w) : Calls Tryd.prog 12 #[.agg #[.bool false, .bool false, .bool true, .bool false, .bool false], .int .u8 12] w fun e w' => e = .returned (.bool true) ∧ Below w.heap.size w w' := cond_calls false false true false false 12 (by decide) (by decide) w hT
theorem cond_b (w : World) (hT : Tab w) : Calls Tryd.prog 12 #[.agg #[.bool false, .bool true, .bool false, .bool false, .bool false], .int .u8 5] w fun e w' => e = .returned (.bool false) ∧ Below w.heap.size w w' := cond_calls false true false false false 5 (by decide) (by decide) w hT
theorem pack_c (w : World) : Calls Tryd.prog 14 #[.agg #[.bool true, .bool false, .bool false, .bool true, .bool false]] w fun e w' => e = .returned (.int .u8 9) ∧ Below w.heap.size w w' := by
  have h := packed_calls true false false true false w
  have e : packL true false false true false bitsL = 9 := by decide +kernel
  rw [e] at h
  exact h
theorem info29 : (Tryd.prog.info? 29).map (·.size) = some C1.size := by kernel_rfl
theorem infoD : (Tryd.prog.info? 29).map (·.size) = some D1.size := by kernel_rfl
theorem infoE : (Tryd.prog.info? 29).map (·.size) = some E1.size := by kernel_rfl
theorem D1_one : D1.all (·.oneCell') = true := all_set C1_one 3 rfl
theorem E1_one : E1.all (·.oneCell') = true := all_set C1_one 3 rfl
theorem ZD : Z29.size = D1.size := by kernel_rfl
theorem ZE : Z29.size = E1.size := by kernel_rfl
theorem alloc_run (W : World) (o : Oper) (a : Act) (ho : o.op = .alloc 29) : (execOp a.eval o).run Tryd.prog W = .ok (.value (.pointer (some ⟨W.heap.size, 0, none⟩))) (W.alloc (.cells Z29 29 (0, 0))) := by
  unfold execOp
  rw [ho]
  simp only [Sem.run_bind, run_alloc29, Result.andThen_ok, Sem.run_pure]
theorem load_run (V : World) (o : Oper) (a : Act) (ho : o.op = .load 29 (.tmp 1)) (g : Nat) (hx : a.eval (.tmp 1) = .pointer (some ⟨g, 0, none⟩)) (hg : V.heap[g]? = some (.cells C1 29 (0, 0))) : (execOp a.eval o).run Tryd.prog V = .ok (.value (.agg C1)) V := by
  unfold execOp
  simp only [ho, hx, Instr.loadAt, Instr.sureAddr, Sem.run_bind, Sem.run_pure, Result.andThen_ok, run_loadVar_row V g 29 29 C1 (0, 0) _ hg Tryd.underlying29 rfl info29]
set_option maxHeartbeats 8000000 in
set_option maxRecDepth 100000 in
theorem wakes_calls (w : World) (hT : Tab w) : Calls Tryd.prog 6 #[] w fun e w' => e = .returned (.bool true) ∧ Below w.heap.size w w' := by
  have hu29 := Tryd.underlying29
  have HT := Aside0.mk hT
  clear hT
  go_enter Tryd.func6, Tryd.ntmps6
  go_upto_region 2 with (first | ((with_reducible refine gate_dst (N := 1) rfl ?_); refine box_event rfl (N := 1) rfl (cs := Z29) (t := 29) (alloc_run _ _ _ rfl) ?_; intro g1 hg1 w1 hbox1 hb1))
  (try simp only [Act.put, List.setIfInBounds_toArray, List.set_cons_zero, List.set_cons_succ])
  have B1 := Aside0.mk hbox1
  have HB1 := Aside0.mk hb1
  have HG1 := Aside0.mk hg1
  have q3 : w1.cell? ⟨g1, 3, none⟩ = some (.int .u64 0) := by rw [bC_ hbox1]; kernel_rfl
  have z3 : w1.frozen? ⟨g1, 3, none⟩ = false := bF_ hbox1 3
  clear hbox1 hb1 hg1
  go_upto_region 3 with (fail)
  have B2 : Aside0 ((w1.setCell ⟨g1, 3, none⟩ (.int .u64 1099511627853)).heap[g1]? = some (.cells C1 29 (0, 0))) := ⟨blk_set1 B1.out 3 _⟩
  have HB2 : Aside0 (Below w.heap.size w (w1.setCell ⟨g1, 3, none⟩ (.int .u64 1099511627853))) := ⟨HB1.out.trans (((Keeps.refl (fun k => k = g1) w1).setCell _ _ rfl).below HB1.out.size (fun k hk h => by have := HG1.out; omega))⟩
  clear B1 HB1 q3 z3
  generalize w1.setCell ⟨g1, 3, none⟩ (.int .u64 1099511627853) = w2 at *
  go_upto_region 4 with (first
    | (with_reducible refine wpList_load_row rfl 29 (.tmp 1) rfl g1 rfl 29 C1 (0, 0) _ B2.out hu29 rfl info29 ?_)
    | (go_at_call 7; refine (set_d _).mono ?_; rintro e w3 ⟨rfl, hb3⟩; have B3 := Aside0.mk (blk_below B2.out hb3); have HB3 := Aside0.mk (HB2.out.trans (hb3.mono HB2.out.size)); clear hb3)
    | ((with_reducible refine gate_dst (N := 2) rfl ?_); refine box_event rfl (N := 2) rfl (cs := Z29) (t := 29) (alloc_run _ _ _ rfl) ?_; intro g2 hg2 w4 hbox2 hb4; have B4 := Aside0.mk (blk_below B3.out hb4); have D4 := Aside0.mk hbox2; have HB4 := Aside0.mk (HB3.out.trans (hb4.mono HB3.out.size)); have HG2 := Aside0.mk (And.intro (show w.heap.size ≤ g2 by rw [hg2]; exact HB3.out.size) (show g1 ≠ g2 by have := blk_lt B3.out; omega)); clear hbox2 hb4 hg2)
    | (with_reducible refine wpList_store_row rfl 29 (.tmp 2) (.tmp 11) rfl g2 D1 rfl rfl 29 Z29 D4.out infoD ZD D1_one ?_))
  (try simp only [Act.put, List.setIfInBounds_toArray, List.set_cons_zero, List.set_cons_succ])
  have B5 : Aside0 ((w4.setRow g2 D1).heap[g1]? = some (.cells C1 29 (0, 0))) := ⟨(setRow_other w4 g2 g1 D1 HG2.out.2).trans B4.out⟩
  have D5 : Aside0 ((w4.setRow g2 D1).heap[g2]? = some (.cells D1 29 (0, 0))) := ⟨setRow_heap w4 g2 Z29 D1 29 (0, 0) D4.out⟩
  have HB5 : Aside0 (Below w.heap.size w (w4.setRow g2 D1)) := ⟨HB4.out.trans ((keeps_setRow w4 g2 D1).below HB4.out.size (fun k hk h => by have := HG2.out.1; omega))⟩
  clear B2 HB2 B3 HB3 B4 D4 HB4
  generalize w4.setRow g2 D1 = w5 at *
  go_upto_region 5 with (first
    | (with_reducible refine wpList_load_row rfl 29 (.tmp 1) rfl g1 rfl 29 C1 (0, 0) _ B5.out hu29 rfl info29 ?_)
    | (go_at_call 7; refine (set_e _).mono ?_; rintro e w6 ⟨rfl, hb6⟩; have B6 := Aside0.mk (blk_below B5.out hb6); have D6 := Aside0.mk (blk_below D5.out hb6); have HB6 := Aside0.mk (HB5.out.trans (hb6.mono HB5.out.size)); clear hb6)
    | ((with_reducible refine gate_dst (N := 3) rfl ?_); refine box_event rfl (N := 3) rfl (cs := Z29) (t := 29) (alloc_run _ _ _ rfl) ?_; intro g3 hg3 w7 hbox3 hb7; have B7 := Aside0.mk (blk_below B6.out hb7); have D7 := Aside0.mk (blk_below D6.out hb7); have E7 := Aside0.mk hbox3; have HB7 := Aside0.mk (HB6.out.trans (hb7.mono HB6.out.size)); have HG3 := Aside0.mk (And.intro (show w.heap.size ≤ g3 by rw [hg3]; exact HB6.out.size) (And.intro (show g1 ≠ g3 by have := blk_lt B6.out; omega) (show g2 ≠ g3 by have := blk_lt D6.out; omega))); clear hbox3 hb7 hg3)
    | (with_reducible refine wpList_store_row rfl 29 (.tmp 3) (.tmp 13) rfl g3 E1 rfl rfl 29 Z29 E7.out infoE ZE E1_one ?_))
  (try simp only [Act.put, List.setIfInBounds_toArray, List.set_cons_zero, List.set_cons_succ])
  have B8 : Aside0 ((w7.setRow g3 E1).heap[g1]? = some (.cells C1 29 (0, 0))) := ⟨(setRow_other w7 g3 g1 E1 HG3.out.2.1).trans B7.out⟩
  have D8 : Aside0 ((w7.setRow g3 E1).heap[g2]? = some (.cells D1 29 (0, 0))) := ⟨(setRow_other w7 g3 g2 E1 HG3.out.2.2).trans D7.out⟩
  have E8 : Aside0 ((w7.setRow g3 E1).heap[g3]? = some (.cells E1 29 (0, 0))) := ⟨setRow_heap w7 g3 Z29 E1 29 (0, 0) E7.out⟩
  have HB8 : Aside0 (Below w.heap.size w (w7.setRow g3 E1)) := ⟨HB7.out.trans ((keeps_setRow w7 g3 E1).below HB7.out.size (fun k hk h => by have := HG3.out.1; omega))⟩
  clear B5 D5 HB5 B6 D6 HB6 B7 D7 E7 HB7
  generalize w7.setRow g3 E1 = w8 at *
  refine (wpIn_wide (n := 0)).1 ?_
  refine AnyH.start (S := fun V => V.heap[g1]? = some (.cells C1 29 (0, 0))) (by kernel_rfl) rfl ?_
  show AnyH _ _ _ _ _ _ _ 8 _ _ _
  have hs0 : w8.drew.heap[g1]? = some (.cells C1 29 (0, 0)) := B8.out
  refine AnyH.take (fuel := 7) (i := 0) (v := .agg C1) rfl rfl (by kernel_rfl) (by kernel_rfl) (by kernel_rfl) (fun _ _ _ h => h) ⟨.inl ⟨by kernel_rfl, fun V hV => load_run V _ _ rfl g1 rfl hV⟩, fun _ => rfl⟩ hs0 ?_
  (try simp only [Act.put, List.setIfInBounds_toArray, List.set_cons_zero, List.set_cons_succ])
  refine AnyH.one (fuel := 6) (i := 1) rfl (by kernel_rfl) (by kernel_rfl) ?_
  refine ⟨fun _ _ => trivial, ?_⟩
  go_simp
  refine ⟨rfl, callsIn_wide.2 ?_⟩
  refine (mem_c _).mono ?_
  rintro e w9a ⟨rfl, hb⟩
  have B9a := Aside0.mk (blk_below (show w8.drew.heap[g1]? = _ from B8.out) hb)
  have D9a := Aside0.mk (blk_below (show w8.drew.heap[g2]? = _ from D8.out) hb)
  have E9a := Aside0.mk (blk_below (show w8.drew.heap[g3]? = _ from E8.out) hb)
  have HB9a := Aside0.mk ((HB8.out.trans (show Below w.heap.size w8 w8.drew from ⟨rfl, rfl, rfl, Nat.le_refl _, fun _ _ => rfl⟩)).trans (hb.mono (show w.heap.size ≤ w8.drew.heap.size from HB8.out.size)))
  clear hb hs0
  have hs1 := B9a.out
  refine ⟨hs1, ?_⟩
  (try simp only [Act.put, List.setIfInBounds_toArray, List.set_cons_zero, List.set_cons_succ])
  refine AnyH.one (fuel := 5) (i := 2) rfl (by kernel_rfl) (by kernel_rfl) ?_
  refine ⟨fun _ _ => trivial, ?_⟩
  go_simp
  refine ⟨rfl, callsIn_wide.2 ?_⟩
  refine (addr_c _).mono ?_
  rintro e w9 ⟨rfl, hb⟩
  have B9 := Aside0.mk (blk_below B9a.out hb)
  have D9 := Aside0.mk (blk_below D9a.out hb)
  have E9 := Aside0.mk (blk_below E9a.out hb)
  have HB9 := Aside0.mk (HB9a.out.trans (hb.mono HB9a.out.size))
  clear hb hs1
  have hs2 := B9.out
  refine ⟨hs2, ?_⟩
  (try simp only [Act.put, List.setIfInBounds_toArray, List.set_cons_zero, List.set_cons_succ])
  refine AnyH.take (fuel := 4) (i := 3) (v := .tuple #[.int .u64 1099511627846, .int .i64 0]) rfl rfl (by kernel_rfl) (by kernel_rfl) (by kernel_rfl) (fun _ _ _ h => h) ⟨.inl ⟨by kernel_rfl, fun V hV => by go_simp⟩, fun _ => rfl⟩ hs2 ?_
  (try simp only [Act.put, List.setIfInBounds_toArray, List.set_cons_zero, List.set_cons_succ])
  refine AnyH.take (fuel := 3) (i := 4) (v := .int .u64 1099511627846) rfl rfl (by kernel_rfl) (by kernel_rfl) (by kernel_rfl) (fun _ _ _ h => h) ⟨.inl ⟨by kernel_rfl, fun V hV => by go_simp⟩, fun _ => rfl⟩ hs2 ?_
  (try simp only [Act.put, List.setIfInBounds_toArray, List.set_cons_zero, List.set_cons_succ])
  refine AnyH.take (fuel := 2) (i := 5) (v := .int .i64 0) rfl rfl (by kernel_rfl) (by kernel_rfl) (by kernel_rfl) (fun _ _ _ h => h) ⟨.inl ⟨by kernel_rfl, fun V hV => by go_simp⟩, fun _ => rfl⟩ hs2 ?_
  (try simp only [Act.put, List.setIfInBounds_toArray, List.set_cons_zero, List.set_cons_succ])
  refine AnyH.take (fuel := 1) (i := 6) (v := .int .u64 1099511627846) rfl rfl (by kernel_rfl) (by kernel_rfl) (by kernel_rfl) (fun _ _ _ h => h) ⟨.inl ⟨by kernel_rfl, fun V hV => by go_simp⟩, fun _ => rfl⟩ hs2 ?_
  (try simp only [Act.put, List.setIfInBounds_toArray, List.set_cons_zero, List.set_cons_succ])
  refine AnyH.take (fuel := 0) (i := 7) (v := .int .i64 0) rfl rfl (by kernel_rfl) (by kernel_rfl) (by kernel_rfl) (fun _ _ _ h => h) ⟨.inl ⟨by kernel_rfl, fun V hV => by go_simp⟩, fun _ => rfl⟩ hs2 ?_
  (try simp only [Act.put, List.setIfInBounds_toArray, List.set_cons_zero, List.set_cons_succ])
  refine AnyH.done (by kernel_rfl) ?_ _
  clear hs2 B8 B9a D8 D9a E8 E9a HB8 HB9a
  go_upto_region 6 with (fail)
  refine (wpIn_wide (n := 0)).1 ?_
  refine AnyH.start (S := fun V => V.heap[g1]? = some (.cells C1 29 (0, 0))) (by kernel_rfl) rfl ?_
  show AnyH _ _ _ _ _ _ _ 8 _ _ _
  have hs0 : w9.drew.heap[g1]? = some (.cells C1 29 (0, 0)) := B9.out
  refine AnyH.take (fuel := 7) (i := 0) (v := .agg C1) rfl rfl (by kernel_rfl) (by kernel_rfl) (by kernel_rfl) (fun _ _ _ h => h) ⟨.inl ⟨by kernel_rfl, fun V hV => load_run V _ _ rfl g1 rfl hV⟩, fun _ => rfl⟩ hs0 ?_
  (try simp only [Act.put, List.setIfInBounds_toArray, List.set_cons_zero, List.set_cons_succ])
  refine AnyH.one (fuel := 6) (i := 1) rfl (by kernel_rfl) (by kernel_rfl) ?_
  refine ⟨fun _ _ => trivial, ?_⟩
  go_simp
  refine ⟨rfl, callsIn_wide.2 ?_⟩
  refine (reg_c _).mono ?_
  rintro e w10a ⟨rfl, hb⟩
  have B10a := Aside0.mk (blk_below (show w9.drew.heap[g1]? = _ from B9.out) hb)
  have D10a := Aside0.mk (blk_below (show w9.drew.heap[g2]? = _ from D9.out) hb)
  have E10a := Aside0.mk (blk_below (show w9.drew.heap[g3]? = _ from E9.out) hb)
  have HB10a := Aside0.mk ((HB9.out.trans (show Below w.heap.size w9 w9.drew from ⟨rfl, rfl, rfl, Nat.le_refl _, fun _ _ => rfl⟩)).trans (hb.mono (show w.heap.size ≤ w9.drew.heap.size from HB9.out.size)))
  clear hb hs0
  have hs1 := B10a.out
  refine ⟨hs1, ?_⟩
  (try simp only [Act.put, List.setIfInBounds_toArray, List.set_cons_zero, List.set_cons_succ])
  refine AnyH.one (fuel := 5) (i := 2) rfl (by kernel_rfl) (by kernel_rfl) ?_
  refine ⟨fun _ _ => trivial, ?_⟩
  go_simp
  refine ⟨rfl, callsIn_wide.2 ?_⟩
  refine (addr_r _).mono ?_
  rintro e w10 ⟨rfl, hb⟩
  have B10 := Aside0.mk (blk_below B10a.out hb)
  have D10 := Aside0.mk (blk_below D10a.out hb)
  have E10 := Aside0.mk (blk_below E10a.out hb)
  have HB10 := Aside0.mk (HB10a.out.trans (hb.mono HB10a.out.size))
  clear hb hs1
  have hs2 := B10.out
  refine ⟨hs2, ?_⟩
  (try simp only [Act.put, List.setIfInBounds_toArray, List.set_cons_zero, List.set_cons_succ])
  refine AnyH.take (fuel := 4) (i := 3) (v := .tuple #[.int .u64 0, .int .i64 2]) rfl rfl (by kernel_rfl) (by kernel_rfl) (by kernel_rfl) (fun _ _ _ h => h) ⟨.inl ⟨by kernel_rfl, fun V hV => by go_simp⟩, fun _ => rfl⟩ hs2 ?_
  (try simp only [Act.put, List.setIfInBounds_toArray, List.set_cons_zero, List.set_cons_succ])
  refine AnyH.take (fuel := 3) (i := 4) (v := .int .u64 0) rfl rfl (by kernel_rfl) (by kernel_rfl) (by kernel_rfl) (fun _ _ _ h => h) ⟨.inl ⟨by kernel_rfl, fun V hV => by go_simp⟩, fun _ => rfl⟩ hs2 ?_
  (try simp only [Act.put, List.setIfInBounds_toArray, List.set_cons_zero, List.set_cons_succ])
  refine AnyH.take (fuel := 2) (i := 5) (v := .int .i64 2) rfl rfl (by kernel_rfl) (by kernel_rfl) (by kernel_rfl) (fun _ _ _ h => h) ⟨.inl ⟨by kernel_rfl, fun V hV => by go_simp⟩, fun _ => rfl⟩ hs2 ?_
  (try simp only [Act.put, List.setIfInBounds_toArray, List.set_cons_zero, List.set_cons_succ])
  refine AnyH.take (fuel := 1) (i := 6) (v := .int .u64 0) rfl rfl (by kernel_rfl) (by kernel_rfl) (by kernel_rfl) (fun _ _ _ h => h) ⟨.inl ⟨by kernel_rfl, fun V hV => by go_simp⟩, fun _ => rfl⟩ hs2 ?_
  (try simp only [Act.put, List.setIfInBounds_toArray, List.set_cons_zero, List.set_cons_succ])
  refine AnyH.take (fuel := 0) (i := 7) (v := .int .i64 2) rfl rfl (by kernel_rfl) (by kernel_rfl) (by kernel_rfl) (fun _ _ _ h => h) ⟨.inl ⟨by kernel_rfl, fun V hV => by go_simp⟩, fun _ => rfl⟩ hs2 ?_
  (try simp only [Act.put, List.setIfInBounds_toArray, List.set_cons_zero, List.set_cons_succ])
  refine AnyH.done (by kernel_rfl) ?_ _
  clear hs2 B9 B10a D9 D10a E9 E10a HB9 HB10a
  go_upto_region 7 with (fail)
  (try simp only [Act.put, List.setIfInBounds_toArray, List.set_cons_zero, List.set_cons_succ])
  have qd : w10.cell? ⟨g2, 3, none⟩ = some (.int .u64 5) := by rw [bC_ D10.out]; exact D1_3
  have qe : w10.cell? ⟨g3, 3, none⟩ = some (.int .u64 1099511628031) := by rw [bC_ E10.out]; exact E1_3
  go_wp2_with (first
    | (refine gate_guard (by rfl) ?_; dsimp only; with_reducible refine wpList_load_row rfl 29 (.tmp 1) rfl g1 rfl 29 C1 (0, 0) _ B10.out hu29 rfl info29 ?_)
    | (go_at_call 8; refine (get_c _).mono ?_; rintro e w11 ⟨rfl, hb11⟩; have HB11 := Aside0.mk (HB10.out.trans (hb11.mono HB10.out.size)); clear hb11)
    | (go_at_call 12; (with_reducible refine (cond_a _ ?_).mono ?_); exact (HT.out.below HB11.out); rintro e w12 ⟨rfl, hb12⟩; have HB12 := Aside0.mk (HB11.out.trans (hb12.mono HB11.out.size)); clear hb12)
    | (go_at_call 12; (with_reducible refine (cond_b _ ?_).mono ?_); exact (HT.out.below HB12.out); rintro e w13 ⟨rfl, hb13⟩; have HB13 := Aside0.mk (HB12.out.trans (hb13.mono HB12.out.size)); clear hb13)
    | (go_at_call 14; refine (pack_c _).mono ?_; rintro e w14 ⟨rfl, hb14⟩; have HB14 := Aside0.mk (HB13.out.trans (hb14.mono HB13.out.size)); clear hb14))
  go_ret
  exact ⟨rfl, HB14.out⟩
end Go.Proofs.YtpmclnlgipphmaaDoor.B
namespace Go.Proofs.YtpmclnlgipphmaaDoor.B
open Go.RowKit Go.Proofs.YtpmclnlgipphmaaDoorW.PrintWords Go.Proofs.YtpmclnlgipphmaaDoorW.PrintMore Go.RF
set_option linter.unusedVariables false
end Go.Proofs.YtpmclnlgipphmaaDoor.B
