/- made walked. Sorting symbols by their addresses, in order: the plain laws. A region in the text's order, with events: as RS.wp_events. -/
import Derived.Test.YtgdhciilobnelaaZf8
import Derived.Shelf.Abstract
import Derived.Test.YtgdhciilobnelaaZf4
namespace Go.Proofs.Ytgdhciilobnelaa.B
open Go.RowKit Go.Lib Go.Proofs.YtgdhciilobnelaaW.PrintWords Go.Proofs.YtgdhciilobnelaaW.PrintLast Go.Proofs.YtgdhciilobnelaaW.PrintMore Go.RF
set_option linter.unusedVariables false
set_option linter.unusedSimpArgs false
attribute [local go_sem] max2_int min2_int max_two min_two
theorem row_event {P : Program} {ops : Array Oper} {rest : List Oper} {o : Oper} {a : Act} {Q : Exit → Act → World → Prop} {W : World} (N : Tmp) (_hd : o.dst = some N) (hgd : o.guard = none) {cs : Array Value} {t : TypeId} {m : Nat}
    (hrun : (execOp a.eval o).run P W = .ok (.value (.slice (some ⟨W.heap.size, 0, none⟩) m m)) (W.alloc (.cells cs t (0, 0))))
    (h : ∀ g, g = W.heap.size → ∀ w1, w1.heap[g]? = some (.cells cs t (0, 0)) → Below W.heap.size W w1 → w1.heap.size = W.heap.size + 1 → wpList P ops Q rest (a.put o.dst (.slice (some ⟨g, 0, none⟩) m m)) w1) : wpList P ops Q (o :: rest) a W :=
  Kd.event_run hgd hrun (h _ rfl _ (World.alloc_heap_new W _) (bX_ (Below.refl _ _) _) (World.size_alloc _ _))
theorem own_lit1 {W : World} {g base : Nat} (h : W.heap[g]? = some (.cells #[.int .u8 0] 5 (0, 0))) (hb : base ≤ g) : W.ownsRow base 5 1 (.slice (some ⟨g, 0, none⟩) 1 1) 1 (nums .u8 [0]) :=
  ⟨rfl, .inr ⟨g, 1, _, rfl, hb, h, Nat.le_refl _, by decide, rfl, rfl⟩⟩
def S41ok (x : S41) : Prop := x.f0.size ≤ 60 ∧ (0 ≤ x.f1 ∧ x.f1 < 256) ∧ (0 ≤ x.f2 ∧ x.f2 < 65536) ∧ Rg x.f3 ∧ Rg x.f4
def madeB (ahead : Nat) (l : List S41) : List Int := List.replicate ahead 0 ++ (tabP l l.length ++ strP l)
def secsM (ahead : Nat) (l : List S41) : List S45 := [z45, ⟨2, (ahead : Int), ((24 * (l.length + 1) : Nat) : Int), 2, 24⟩, ⟨3, ((ahead + 24 * (l.length + 1) : Nat) : Int), ((strP l).length : Int), 0, 0⟩]
theorem ahead_ok {n : Nat} (h : n ≤ 200) : ((n : Int)).toNat * 1 ≤ 281474976710656 := by
  rw [Int.toNat_natCast]
  omega
theorem wadd_ok {a m : Nat} (h : a ≤ 200) (hm : m ≤ 1464) : wrap64 ((a : Int) + (m : Int)) = (a : Int) + (m : Int) := by unfold wrap64; omega
theorem wsum_ok {a m : Nat} (h : a ≤ 200) (hm : m ≤ 1464) : IntKind.u64.wrap ((a : Int) + (m : Int)) = (a : Int) + (m : Int) := wrapU (by omega) (by omega)
theorem len1 {a m : Nat} (h : a ≤ 200) (hm : m ≤ 1464) : (a + m) * 1 ≤ 140737488355328 := by omega
theorem len2 {a m s : Nat} (h : a ≤ 200) (hm : m ≤ 1464) (hs : s ≤ 3661) : (a + m + s) * 1 ≤ 140737488355328 := by omega
theorem strP_le {l : List S41} (h : ∀ x ∈ l, S41ok x) : (strP l).length ≤ 1 + 61 * l.length := by
  unfold strP
  induction l with
  | nil => simp
  | cons x r ih =>
    have h1 := ih (fun y hy => h y (List.mem_cons_of_mem _ hy))
    have h2 := (h x List.mem_cons_self).1
    simp only [List.length_cons, List.flatMap_cons, List.length_append, strB_length, List.length_nil] at h1 ⊢
    omega
theorem putI (aI nI x : Int) {b g cap m : Nat} {xs : List Int} {a n : Nat} {w : World} (hO : OB b g cap xs w) (hm : xs.length = m) (ha : aI = (a : Int)) (hn : nI = (n : Int)) (hfit : a + n ≤ m) (h1 : 1 ≤ n) (h8 : n ≤ 8) (hml : m ≤ 1000000) :
    Calls Try.prog 18 #[.slice (some ⟨g, 0, none⟩) m cap, .int .i64 aI, .int .u64 x, .int .i64 nI] w fun e w' => (∃ v, e = .returned v) ∧ OB b g cap (splice xs a (bytesN x n)) w' ∧ Keeps (fun k => k = g) w w' := by
  subst ha hn
  exact put_calls b g cap m xs a n x w hO hm hfit h1 h8 hml
theorem ent_step (l : List S41) (i n at_ : Nat) (o : Int) (x : S41) (h : i < n) (ha : 24 * (i + 1) = at_) :
    splice (splice (splice ((splice (tabP l i ++ List.replicate (24 * (n - i)) 0) at_ (bytesN o 4)).set (at_ + 4) x.f1) (at_ + 6) (bytesN x.f2 2)) (at_ + 8) (bytesN x.f3 8)) (at_ + 16) (bytesN x.f4 8) = tabP l i ++ (entB o x ++ List.replicate (24 * (n - (i + 1))) 0) := by
  have hp : (tabP l i).length = at_ := by rw [tabP_len]; exact ha
  rw [show 24 * (n - i) = 24 + 24 * (n - (i + 1)) by omega, ← List.replicate_append_replicate]
  have l0 : (List.replicate 24 (0 : Int)).length = 24 := List.length_replicate
  rw [splice_mid _ _ _ _ 0 _ (by omega) (by rw [bytesN_length, l0]; omega)]
  rw [set_mid _ _ _ 4 _ _ (by omega) (by rw [splice_len (by rw [bytesN_length, l0]; omega), l0]; omega)]
  rw [splice_mid _ _ _ _ 6 _ (by omega) (by rw [bytesN_length, List.length_set, splice_len (by rw [bytesN_length, l0]; omega), l0]; omega)]
  rw [splice_mid _ _ _ _ 8 _ (by omega) (by rw [bytesN_length]; exact (by decide : 16 ≤ 24))]
  rw [splice_mid _ _ _ _ 16 _ (by omega) (by rw [bytesN_length]; exact Nat.le_refl 24)]
  rw [ent_made]
  rfl
theorem MdI.below {w W W' : World} {B gt capT g5 : Nat} {sv : Value} {ss ts : List Int} (h : MdI w B gt capT g5 sv ss ts W) (hb : Below W.heap.size W W') : MdI w B gt capT g5 sv ss ts W' :=
  ⟨below_step h.1 hb, heap_below hb h.2.1, h.2.2.1.met hb, own_move h.2.2.2.1 (fun k hk => hb.block k (own_lt h.2.2.2.1 k hk)), h.2.2.2.2⟩
theorem MdI.app {w W W' : World} {B gt capT g5 : Nat} {sv sv' : Value} {ss ss' ts : List Int} (h : MdI w B gt capT g5 sv ss ts W) (ho : W'.ownsRow w.heap.size 5 1 sv' ss'.length (nums .u8 ss')) (hg : W.grownBy W' sv.ownBlock)
    (hat : sv'.ownBlock = sv.ownBlock ∨ ∃ b, sv'.ownBlock = some b ∧ W.heap.size ≤ b) : MdI w B gt capT g5 sv' ss' ts W' := by
  obtain ⟨h1, h2, h3, h4, h5⟩ := h
  have hk : Keeps (fun k => sv.ownBlock = some k) W W' := Keeps.of_grown hg (fun k e => e)
  have l5 : g5 < W.heap.size := blk_lt h2
  have lt : gt < W.heap.size := h3.lt
  refine ⟨h1.trans (hk.below h1.size (fun k hk' e => by have := own_base h4 k e; omega)), hk.at_ h2 (fun e => (h5 g5 e).2 rfl), ?_, ho, fun k e => ?_⟩
  · obtain ⟨a1, cs, a2, a3⟩ := h3
    exact ⟨a1, cs, hk.at_ a2 (fun e => (h5 gt e).1 rfl), a3⟩
  · rcases hat with e1 | ⟨b, e1, hb⟩
    · exact h5 k (by rw [← e1]; exact e)
    · rw [e1] at e
      injection e with e
      omega
theorem reads1 {W : World} {g : Nat} (h : W.heap[g]? = some (.cells #[.int .u8 0] 5 (0, 0))) : ReadsOf (Value.int .u8) 0 W (some ⟨g, 0, none⟩) 1 [0] :=
  ⟨rfl, by decide, fun _ => ⟨_, rfl, fun j hj => by
    obtain rfl : j = 0 := by omega
    rw [addz]
    exact (cell_of_block h).1⟩⟩
set_option maxHeartbeats 2000000 in
set_option maxRecDepth 100000 in
theorem made_calls (ahead : Nat) (A1 : Option Addr) (c1 n : Nat) (l : List S41) (w : World) (ha : ahead ≤ 200) (hl : Kd.C k41 w A1 l.length l) (hn : l.length = n) (h60 : n ≤ 60) (hok : ∀ x ∈ l, S41ok x) :
    Calls Try.prog 9 #[.int .i64 (ahead : Int), .slice A1 n c1] w fun e w' => ∃ g cap As c3, e = .returned (.tuple #[.slice (some ⟨g, 0, none⟩) (madeB ahead l).length cap, .agg #[.int .u64 0, .int .u64 0, .int .u64 0, .slice none 0 0, .slice As 3 c3]]) ∧
      OB w.heap.size g cap (madeB ahead l) w' ∧ Kd.C k45 w' As 3 (secsM ahead l) ∧ Below w.heap.size w w' := by
  have HL := Aside0.mk hl
  have HN := Aside0.mk hn
  have HOK := Aside0.mk hok
  clear hl hn hok
  go_enter Try.func9, Try.ntmps9
  have m1 : wrap64 ((n : Int) + 1) = ((n + 1 : Nat) : Int) := by unfold wrap64; omega
  have m2 : wrap64 (24 * ((n + 1 : Nat) : Int)) = ((24 * (n + 1) : Nat) : Int) := by unfold wrap64; omega
  go_upto_region 3 with (first | ((with_reducible refine gate_dst (N := 5) rfl ?_); refine box_event ?hg (N := 5) ?hd (cs := #[.int .u64 0, .int .u64 0, .int .u64 0, .slice none 0 0, .slice none 0 0]) (t := 30) ?hr ?_; (case hd => rfl); (case hg => rfl); (case hr => first | (go_simp; done) | (go_simp; rfl)); intro g5 hg w1 hbox hb; have HB1 := Aside0.mk hb; have K5 := Aside0.mk hbox; have HG5 := Aside0.mk hg; clear hg hbox hb) | (refine row_event 11 rfl rfl (cs := #[.int .u8 0]) (t := 5) (m := 1) ?hr ?_; (case hr => first | (go_simp; done) | (go_simp; rfl)); intro gs0 hgs w2 hbox hb hs2; have HB2 := Aside0.mk (below_step HB1.out hb); have K5b := Aside0.mk (heap_below hb K5.out); have KS := Aside0.mk hbox; have HGS := Aside0.mk hgs; have HS2 := Aside0.mk hs2; clear hbox hb hgs hs2) | ((with_reducible refine gate_dst (N := 16) rfl ?_); refine Kd.R_make (Kd.int .u8) _ 5 rfl (N := 16) rfl 23 _ _ rfl ((24 * (n + 1) : Nat) : Int) rfl rfl Try.underlying23 (.int .u8 0) 1 info5 rfl (by decide) (by omega) 0 (ok := fun _ => True) (okp := fun _ => True) rfl (fun _ hk => hk) trivial (by omega) (by omega) (Below.refl _ _) (Nat.le_refl _) ?_; intro v3 w3 hr hb hg_ hnew_; rw [Int.toNat_natCast] at hr; obtain ⟨gt, capT, rfl, hO⟩ := OB.of_R hr (by rw [List.length_replicate]; omega); rw [List.length_replicate]; have HO := Aside0.mk hO; have HB3 := Aside0.mk (below_step HB2.out hb); have K5c := Aside0.mk (heap_below hb K5b.out); have KSc := Aside0.mk (heap_below hb KS.out); clear hr hb hg_ hnew_ hO))
  have hle5 : w.heap.size ≤ g5 := by rw [HG5.out]; exact Nat.le_refl _
  have hles : w.heap.size ≤ gs0 := by rw [HGS.out]; exact HB1.out.size
  have hn5 : gs0 ≠ g5 := by have := blk_lt K5.out; rw [HGS.out]; omega
  have hngt : gs0 ≠ gt := by have := HO.out.1; have := HS2.out; have := HGS.out; omega
  have HBASE := Aside0.mk (show w.heap.size ≤ w2.heap.size from HB2.out.size)
  have HLE5 := Aside0.mk hle5
  have HI0 := Aside0.mk (show MdI w w2.heap.size gt capT g5 (.slice (some ⟨gs0, 0, none⟩) 1 1) [0] (List.replicate (24 * (n + 1)) 0) w3 from ⟨HB3.out, K5c.out, HO.out, own_lit1 KSc.out hles, fun k hk => by
    have : gs0 = k := by simpa [Value.ownBlock] using hk
    subst this; exact ⟨hngt, hn5⟩⟩)
  clear K5 K5b K5c KS KSc HO HG5 HGS HS2 hle5 hles hn5 hngt HB1 HB3 HB2
  obtain ⟨m, hm⟩ : ∃ m, 24 * (n + 1) = m := ⟨_, rfl⟩
  rw [hm] at HI0 m2 ⊢
  have HM := Aside0.mk hm
  clear hm
  go_wp2
  go_loopw [6, 8] (fun t6 t8 wr => ∃ (i : Nat) (A : Option Addr) (c : Nat), i ≤ n ∧ t8 = .int .i64 (i : Int) ∧ t6 = .slice A (strP (l.take i)).length c ∧ Aside0 (MdI w w2.heap.size gt capT g5 (.slice A (strP (l.take i)).length c) (strP (l.take i)) (tabP l i ++ List.replicate (24 * (n - i)) 0) wr)) (fun _ t8 _ => ((n : Int) - intOf t8).toNat)
  case atStart => exact ⟨0, _, _, by omega, rfl, rfl, ⟨by
    have h := HI0.out
    rw [← HM.out] at h
    have e : tabP l 0 ++ List.replicate (24 * (n - 0)) 0 = List.replicate (24 * (n + 1)) 0 := by rw [show tabP l 0 = List.replicate 24 0 by unfold tabP; rfl, List.replicate_append_replicate]; congr 1; omega
    rw [e]
    exact h⟩⟩
  case round =>
    clear HI0
    obtain ⟨i, As, cs, hi, rfl, rfl, HMD⟩ := hrel
    obtain ⟨ss, hss⟩ : ∃ ss, strP (l.take i) = ss := ⟨_, rfl⟩
    have HSS := Aside0.mk hss
    rw [hss] at HMD
    rw [hss]
    clear hss
    by_cases hin : i < n
    · have e1 : decide ((i : Int) < (n : Int)) = true := decide_eq_true (by omega)
      have p1 : 0 ≤ (i : Int) := by omega
      have q1 : (i : Int) < (n : Int) := by omega
      have a1 : wrap64 ((i : Int) + 1) = ((i + 1 : Nat) : Int) := by unfold wrap64; omega
      obtain ⟨at_, hat⟩ : ∃ a, 24 * (i + 1) = a := ⟨_, rfl⟩
      have a2 : wrap64 (24 * ((i + 1 : Nat) : Int)) = (at_ : Int) := by unfold wrap64; omega
      have hfit : at_ + 24 ≤ m := by have := HM.out; omega
      have HAT := Aside0.mk hat
      have hm1 : m ≤ 1464 := by have := HM.out; omega
      have HLEN := Aside0.mk (show ss.length ≤ 3661 ∧ 0 < ss.length from by
        rw [← HSS.out]
        refine ⟨?_, by unfold strP; simp⟩
        have h1 := strP_le (l := l.take i) (fun x hx => HOK.out x (List.mem_of_mem_take hx))
        rw [List.length_take] at h1
        omega)
      have HXO := Aside0.mk (HOK.out (l.getD i z41) (by rw [List.getD_eq_getElem?_getD, List.getElem?_eq_getElem (by rw [HN.out]; exact hin)]; exact List.getElem_mem _))
      have HSN := Aside0.mk (strP_snoc l (i := i) (by rw [HN.out]; exact hin))
      have HTS := Aside0.mk (tabP_succ l i)
      rw [HSS.out] at HSN HTS
      have w1 : IntKind.u64.wrap (ss.length : Int) = (ss.length : Int) := wrapU (by omega) (by have := HLEN.out; omega)
      obtain ⟨x, hx⟩ : ∃ x, l.getD i z41 = x := ⟨_, rfl⟩
      rw [hx] at HXO HSN HTS
      have HX := Aside0.mk hx
      have CELLS := Aside0.mk (fun (W : World) (h : Below w.heap.size w W) => (by have := el41 (Kd.C_below HL.out h) HN.out i hin; rw [hx] at this; exact this : ∃ ad, A1 = some ad ∧ W.cell? (ad.add (i * 5)) = some (.string x.f0) ∧ W.cell? ⟨(ad.add (i * 5)).block, (ad.add (i * 5)).off + 1, none⟩ = some (.int .u8 x.f1) ∧ W.cell? ⟨(ad.add (i * 5)).block, (ad.add (i * 5)).off + 2, none⟩ = some (.int .u16 x.f2) ∧ W.cell? ⟨(ad.add (i * 5)).block, (ad.add (i * 5)).off + 3, none⟩ = some (.int .u64 x.f3) ∧ W.cell? ⟨(ad.add (i * 5)).block, (ad.add (i * 5)).off + 4, none⟩ = some (.int .u64 x.f4)))
      clear hx hat
      obtain ⟨x0, x1, x2, x3, x4⟩ := x
      replace p1 := eq_true p1
      replace q1 := eq_true q1
      obtain ⟨T0, hT0⟩ : ∃ T0, tabP l i ++ List.replicate (24 * (n - i)) 0 = T0 := ⟨_, rfl⟩
      rw [hT0] at HMD
      have HT0 := Aside0.mk (And.intro hT0 (show T0.length = m by rw [← hT0, List.length_append, tabP_len, List.length_replicate]; have := HM.out; omega))
      clear hT0
      have hv : 24 * ((i : Int) + 1) = (at_ : Int) := by have := HAT.out; omega
      go_upto_region 7 with (fail)
      try simp only [hv]
      have L0 := HT0.out.2
      go_upto_region 8 with (go_at_call 18; (try simp only [hv]); refine (putI (at_ : Int) 4 (ss.length : Int) HMD.out.2.2.1 (m := m) (a := at_) (n := 4) (by exact L0) rfl rfl (by omega) (by decide) (by decide) (by omega)).mono ?_; rintro e wa ⟨⟨v, rfl⟩, hO', hk⟩; have MA := Aside0.mk (HMD.out.keep HBASE.out hO' hk); clear hO' hk)
      clear HMD a1 a2 w1 e1 L0
      -- the kind
      obtain ⟨ad, ea, hx0, hx1, hx2, hx3, hx4⟩ := CELLS.out wa MA.out.1
      subst ea
      obtain ⟨T1, hT1⟩ : ∃ T1, splice T0 at_ (bytesN (ss.length : Int) 4) = T1 := ⟨_, rfl⟩
      rw [hT1] at MA
      have HT1 := Aside0.mk (And.intro hT1 (show T1.length = m by rw [← hT1, splice_len (by rw [bytesN_length, HT0.out.2]; omega)]; exact HT0.out.2))
      have pk : 0 ≤ (at_ : Int) + 4 := by omega
      have qk : (at_ : Int) + 4 < (m : Int) := by omega
      replace pk := eq_true pk
      replace qk := eq_true qk
      have tk : ((at_ : Int) + 4).toNat = at_ + 4 := by omega
      have wk : wrap64 ((at_ : Int) + 4) = (at_ : Int) + 4 := by unfold wrap64; omega
      have ck := MA.out.2.2.1.cell (at_ + 4) (by rw [HT1.out.2]; omega)
      have fk := MA.out.2.2.1.frozen (at_ + 4)
      clear hT1
      go_upto_region 9 with (fail)
      clear pk qk tk wk ck fk hx0 hx1 hx2 hx3 hx4
      have Mwb := Aside0.mk (MA.out.keep HBASE.out (MA.out.2.2.1.set (at_ + 4) x1) ((Keeps.refl _ wa).setCell _ _ rfl))
      generalize wa.setCell ⟨gt, at_ + 4, none⟩ (.int .u8 x1) = wb at *
      obtain ⟨T2, hT⟩ : ∃ T, T1.set (at_ + 4) x1 = T := ⟨_, rfl⟩
      rw [hT] at Mwb
      have LT2 := Aside0.mk (show T2.length = m by rw [← hT, List.length_set]; exact HT1.out.2)
      have ET2 := Aside0.mk hT
      clear hT MA
      have wu2 : IntKind.u64.wrap x2 = x2 := by have := HXO.out.2.2.1; dsimp only at this; exact wrapU (by omega) (by omega)
      obtain ⟨ad6, ea, hx0, hx1, hx2, hx3, hx4⟩ := CELLS.out wb Mwb.out.1
      cases ea
      have wk : wrap64 ((at_ : Int) + 6) = (at_ : Int) + 6 := by unfold wrap64; omega
      have L0 := LT2.out
      go_upto_region 10 with (go_at_call 18; refine (putI ((at_ : Int) + 6) 2 x2 Mwb.out.2.2.1 (m := m) (a := at_ + 6) (n := 2) (by exact L0) (by omega) rfl (by omega) (by decide) (by decide) (by omega)).mono ?_; rintro e wc ⟨⟨v6, rfl⟩, hO', hk⟩; have Mwc := Aside0.mk (Mwb.out.keep HBASE.out hO' hk); clear hO' hk)
      clear wk L0 hx0 hx1 hx2 hx3 hx4
      obtain ⟨T3, hT⟩ : ∃ T, splice T2 (at_ + 6) (bytesN x2 2) = T := ⟨_, rfl⟩
      rw [hT] at Mwc
      have LT3 := Aside0.mk (show T3.length = m by rw [← hT, splice_len (by rw [bytesN_length, LT2.out]; omega)]; exact LT2.out)
      have ET3 := Aside0.mk hT
      clear hT
      clear wu2
      obtain ⟨ad8, ea, hx0, hx1, hx2, hx3, hx4⟩ := CELLS.out wc Mwc.out.1
      cases ea
      have wk : wrap64 ((at_ : Int) + 8) = (at_ : Int) + 8 := by unfold wrap64; omega
      have L0 := LT3.out
      go_upto_region 11 with (go_at_call 18; refine (putI ((at_ : Int) + 8) 8 x3 Mwc.out.2.2.1 (m := m) (a := at_ + 8) (n := 8) (by exact L0) (by omega) rfl (by omega) (by decide) (by decide) (by omega)).mono ?_; rintro e wd ⟨⟨v8, rfl⟩, hO', hk⟩; have Mwd := Aside0.mk (Mwc.out.keep HBASE.out hO' hk); clear hO' hk)
      clear wk L0 hx0 hx1 hx2 hx3 hx4
      obtain ⟨T4, hT⟩ : ∃ T, splice T3 (at_ + 8) (bytesN x3 8) = T := ⟨_, rfl⟩
      rw [hT] at Mwd
      have LT4 := Aside0.mk (show T4.length = m by rw [← hT, splice_len (by rw [bytesN_length, LT3.out]; omega)]; exact LT3.out)
      have ET4 := Aside0.mk hT
      clear hT
      obtain ⟨ad16, ea, hx0, hx1, hx2, hx3, hx4⟩ := CELLS.out wd Mwd.out.1
      cases ea
      have wk : wrap64 ((at_ : Int) + 16) = (at_ : Int) + 16 := by unfold wrap64; omega
      have L0 := LT4.out
      go_upto_region 12 with (go_at_call 18; refine (putI ((at_ : Int) + 16) 8 x4 Mwd.out.2.2.1 (m := m) (a := at_ + 16) (n := 8) (by exact L0) (by omega) rfl (by omega) (by decide) (by decide) (by omega)).mono ?_; rintro e we ⟨⟨v16, rfl⟩, hO', hk⟩; have Mwe := Aside0.mk (Mwd.out.keep HBASE.out hO' hk); clear hO' hk)
      clear wk L0 hx0 hx1 hx2 hx3 hx4
      obtain ⟨T5, hT⟩ : ∃ T, splice T4 (at_ + 16) (bytesN x4 8) = T := ⟨_, rfl⟩
      rw [hT] at Mwe
      have LT5 := Aside0.mk (show T5.length = m by rw [← hT, splice_len (by rw [bytesN_length, LT4.out]; omega)]; exact LT4.out)
      have ET5 := Aside0.mk hT
      clear hT
      have HT5 := Aside0.mk (show T5 = tabP l (i + 1) ++ List.replicate (24 * (n - (i + 1))) 0 by
        rw [← ET5.out, ← ET4.out, ← ET3.out, ← ET2.out, ← HT1.out.1, ← HT0.out.1, HTS.out, List.append_assoc]
        exact ent_step l i n at_ (ss.length : Int) ⟨x0, x1, x2, x3, x4⟩ hin HAT.out)
      obtain ⟨adz, ea, hx0, hx1, hx2, hx3, hx4⟩ := CELLS.out we Mwe.out.1
      cases ea
      clear Mwb Mwc Mwd
      have hz60 : x0.size ≤ 60 := HXO.out.1
      have hl36 := HLEN.out
      go_wp2_with (first | ((with_reducible refine gate_dst (N := 75) rfl ?_); (refine append_str w.heap.size rfl (.tmp 69) (.tmp 74) 23 9 5 rfl Try.underlying23 Try.underlying9 info5 (.slice As ss.length cs) ss x0 rfl rfl Mwe.out.2.2.2.1 HLEN.out.2 (by omega) Mwe.out.1.size ?_); intro v5 wf hown hg hat; have Mwf := Aside0.mk (Mwe.out.app hown hg (hat.imp id (fun e => ⟨_, e, Nat.le_refl _⟩))); clear hown hg hat hx0 hx1 hx2 hx3 hx4) | (refine row_event 76 rfl rfl (cs := #[.int .u8 0]) (t := 5) (m := 1) ?hr ?_; (case hr => first | (go_simp; done) | (go_simp; rfl)); intro gz hgz wg hbox hb hs2; have Mwg := Aside0.mk (Mwf.out.below hb); have KZ := Aside0.mk hbox; clear hbox hb hgz hs2) | ((with_reducible refine gate_dst (N := 77) rfl ?_); (refine print_append_row_of (w0 := w) (Value.int .u8) 0 w.heap.size rfl (.tmp 75) (.tmp 76) 23 5 (.int .u8 0) 1 rfl Try.underlying23 info5 rfl (by decide) (fun _ => rfl) v5 (ss ++ strB x0) [0] (some ⟨gz, 0, none⟩) 1 1 rfl rfl Mwg.out.2.2.2.1 (reads1 KZ.out) Mwg.out.1 Mwg.out.1.size (by rw [List.length_append, strB_length]; omega) ?_); intro v6 wh hown hb hg hat; have Mwh := Aside0.mk (Mwg.out.app (ss' := ss ++ strB x0 ++ [0]) hown hg hat); obtain ⟨A6, c6, rfl⟩ := own_slice Mwh.out.2.2.2.1; clear hown hb hg hat))
      go_roundw
      case rel => exact ⟨i + 1, A6, c6, by omega, by go_num, by rw [HSN.out, List.length_append, List.length_append]; rfl, ⟨by rw [HSN.out, ← HT5.out]; exact Mwh.out⟩⟩
      case measure => simp [intOf]; omega
    · have hie : n = i := by omega
      subst hie
      have e1 : decide ((n : Int) < (n : Int)) = false := decide_eq_false (by omega)
      have HTL := Aside0.mk (show (tabP l n).length = m by rw [tabP_len]; exact HM.out)
      have HSL := Aside0.mk (show ss = strP l by rw [← HSS.out, List.take_of_length_le (by rw [HN.out]; exact Nat.le_refl _)])
      have HMZ := Aside0.mk (show MdI w w2.heap.size gt capT g5 (.slice As ss.length cs) ss (tabP l n) wr by
        have h := HMD.out
        rw [show tabP l n ++ List.replicate (24 * (n - n)) 0 = tabP l n by rw [Nat.sub_self]; simp] at h
        exact h)
      have hs3 : ss.length ≤ 3661 := by
        rw [HSL.out]
        have h1 := strP_le (l := l) HOK.out
        rw [HN.out] at h1
        omega
      have hm1 : m ≤ 1464 := by have := HM.out; omega
      have HS0 := Aside0.mk (show 0 < ss.length by rw [HSL.out]; unfold strP; simp)
      clear HMD HSS
      have HM1 := Aside0.mk hm1
      have HS3 := Aside0.mk hs3
      have u1 : IntKind.u64.wrap (ahead : Int) = (ahead : Int) := wrapU (by omega) (by omega)
      have u2 : IntKind.u64.wrap (m : Int) = (m : Int) := wrapU (by omega) (by omega)
      have u3 : IntKind.u64.wrap (ss.length : Int) = (ss.length : Int) := wrapU (by omega) (by omega)
      have u5 : wrap64 ((ahead : Int) + (m : Int)) = (ahead : Int) + (m : Int) := wadd_ok ha HM1.out
      have u4 : IntKind.u64.wrap ((ahead : Int) + (m : Int)) = (ahead : Int) + (m : Int) := wsum_ok ha HM1.out
      go_upto_region 14 with (first | ((with_reducible refine gate_dst (N := 79) rfl ?_); refine Kd.R_make (Kd.int .u8) wr.heap.size 5 rfl (N := 79) rfl 23 _ _ rfl (ahead : Int) rfl rfl Try.underlying23 (.int .u8 0) 1 info5 rfl (by decide) (by omega) 0 (ok := fun _ => True) (okp := fun _ => True) rfl (fun _ hk => hk) trivial (Int.natCast_nonneg _) (ahead_ok ha) (Below.refl _ _) (Nat.le_refl _) ?_; intro v9 w9 hr hb hg_ hnew_; rw [Int.toNat_natCast] at hr; have R9 := Aside0.mk hr; have B9 := Aside0.mk hb; have M9 := Aside0.mk (HMZ.out.below hb); clear hr hb hg_ hnew_) | ((with_reducible refine gate_dst (N := 81) rfl ?_); (refine Kd.R_append_row (Value.int .u8) 0 (w0 := wr) wr.heap.size rfl (.tmp 79) (.tmp 80) 23 5 (.int .u8 0) 1 rfl Try.underlying23 info5 rfl (by decide) v9 (List.replicate ahead 0) (tabP l n) (some ⟨gt, 0, none⟩) m capT (fun _ => True) rfl rfl (fun _ _ => trivial) R9.out (by have := M9.out.2.2.1.C; rw [HTL.out] at this; exact this) B9.out B9.out.size (by rw [List.length_replicate]; exact len1 ha HM1.out) ?_); intro v10 w10 hr hb hg hat; have R10 := Aside0.mk hr; have B10 := Aside0.mk hb; have M10 := Aside0.mk (HMZ.out.below hb); clear hr hb hg hat) | ((with_reducible refine gate_dst (N := 83) rfl ?_); (refine Kd.R_append_row (Value.int .u8) 0 (w0 := wr) wr.heap.size rfl (.tmp 81) (.tmp 82) 23 5 (.int .u8 0) 1 rfl Try.underlying23 info5 rfl (by decide) v10 (List.replicate ahead 0 ++ tabP l n) ss As ss.length cs (fun _ => True) rfl rfl (fun _ _ => trivial) R10.out (Kd.C_of_reads (d := 0) (own_reads_of' M10.out.2.2.2.1)) B10.out B10.out.size (by rw [List.length_append, List.length_replicate, HTL.out]; exact len2 ha HM1.out HS3.out) ?_); intro v11 w11 hr hb hg hat; have R11 := Aside0.mk hr; have B11 := Aside0.mk hb; have M11 := Aside0.mk (HMZ.out.below hb); clear hr hb hg hat))
      have HZS := Aside0.mk HMZ.out.1.size
      clear R9 R10 B9 B10 M9 M10 HMZ
      go_wp2_with (first | ((with_reducible refine gate_dst (N := 101) rfl ?_); refine Kd.R_lit k45 w11.heap.size 45 ?hg (N := 101) ?hd (xs := [z45, ⟨2, (ahead : Int), (m : Int), 2, 24⟩, ⟨3, (ahead : Int) + (m : Int), (ss.length : Int), 0, 0⟩]) (inner := [.int .u32 0, .int .u64 0, .int .u64 0, .int .u32 0, .int .u64 0, .int .u32 2, .int .u64 (ahead : Int), .int .u64 (m : Int), .int .u32 2, .int .u64 24, .int .u32 3, .int .u64 ((ahead : Int) + (m : Int)), .int .u64 (ss.length : Int), .int .u32 0, .int .u64 0]) (ok := fun _ => True) (okp := fun _ => True) ?hr ?hp (fun _ hk => hk) trivial (Below.refl _ _) (Nat.le_refl _) (by simp) ?_; (case hd => rfl); (case hg => rfl); (case hr => first | (go_simp; done) | (go_simp; rfl)); (case hp => exact Reps.c5 (k45_mkM _ _ _ z45) (Reps.c5 (k45_mkM _ _ _ ⟨2, (ahead : Int), (m : Int), 2, 24⟩) (Reps.c5 (k45_mkM _ _ _ ⟨3, (ahead : Int) + (m : Int), (ss.length : Int), 0, 0⟩) (Reps.none _ _)))); intro v12 w12 hr hb hg_ hnew_; have R12 := Aside0.mk hr; obtain ⟨A12, c12, hv12, hcc, hC⟩ := Kd.R_reads hr; replace hv12 : v12 = .slice A12 3 c12 := hv12; subst hv12; have C12 := Aside0.mk (show Kd.C k45 w12 A12 3 _ from hC); have B12 := Aside0.mk hb; have M12 := Aside0.mk (M11.out.below hb); clear hr hb hg_ hnew_ hcc hC) | (refine wpList_store_row rfl 30 (.tmp 5) (.tmp 102) rfl g5 #[.int .u64 0, .int .u64 0, .int .u64 0, .slice none 0 0, .slice A12 3 c12] (by kernel_rfl) (by kernel_rfl) 30 #[.int .u64 0, .int .u64 0, .int .u64 0, .slice none 0 0, .slice none 0 0] M12.out.2.1 (by kernel_rfl) rfl (by simp [Value.oneCell']) ?_))
      have hs := setRow_heap w12 g5 _ #[.int .u64 0, .int .u64 0, .int .u64 0, .slice none 0 0, .slice A12 3 c12] 30 (0, 0) M12.out.2.1
      have hu30 := Try.underlying30
      obtain ⟨gR, capR, rfl, hOR⟩ := OB.of_R R11.out (by rw [List.length_append]; have := HS0.out; omega)
      have hlen : (List.replicate ahead 0 ++ tabP l n ++ ss).length = (madeB ahead l).length := by unfold madeB; rw [← HSL.out, HN.out, List.append_assoc]
      have hB5 := below_setRow M12.out.1 HLE5.out #[.int .u64 0, .int .u64 0, .int .u64 0, .slice none 0 0, .slice A12 3 c12]
      refine bodyPost_ret (results_tc rfl _ _ g5 30 #[.int .u64 0, .int .u64 0, .int .u64 0, .slice none 0 0, .slice A12 3 c12] (0, 0) _ rfl hs hu30 rfl (by kernel_rfl)) rfl ⟨gR, capR, A12, c12, by rw [hlen]; rfl, ?_, ?_, hB5⟩
      · have hO := (hOR.met B12.out)
        have hne := hO.ne M12.out.2.1 (by decide)
        have h2 := (hO.farRow hne #[.int .u64 0, .int .u64 0, .int .u64 0, .slice none 0 0, .slice A12 3 c12]).mono HZS.out
        rw [show madeB ahead l = List.replicate ahead 0 ++ tabP l n ++ ss by unfold madeB; rw [← HSL.out, HN.out, List.append_assoc]]
        exact h2
      · have h3 := Kd.R_step (w1 := w12.setRow g5 #[.int .u64 0, .int .u64 0, .int .u64 0, .slice none 0 0, .slice A12 3 c12]) (Kd.R_types R12.out M12.out.2.1 (by decide)) (fun k hk _ => setRow_other _ _ _ _ hk.2)
        obtain ⟨A, c, he, _, hC⟩ := Kd.R_reads h3
        cases he
        rw [show secsM ahead l = [z45, ⟨2, (ahead : Int), (m : Int), 2, 24⟩, ⟨3, (ahead : Int) + (m : Int), (ss.length : Int), 0, 0⟩] by
          unfold secsM
          rw [← HSL.out, HN.out, HM.out, Int.natCast_add]]
        exact hC
end Go.Proofs.Ytgdhciilobnelaa.B
namespace Go.Proofs.Ytgdhciilobnelaa.B
open Go.RowKit
set_option linter.unusedVariables false
set_option linter.unusedSimpArgs false
def leS (x y : S38) : Prop := x.f1 ≤ y.f1
abbrev Srt (l : List S38) : Prop := l.Pairwise leS
def SS (X Y : List S38) : Prop := Srt Y ∧ ∀ k : Int, Y.filter (fun x => x.f1 == k) = X.filter (fun x => x.f1 == k)
def Fk (X Y : List S38) : Prop := ∀ k : Int, Y.filter (fun x => x.f1 == k) = X.filter (fun x => x.f1 == k)
theorem Fk.refl (X : List S38) : Fk X X := fun _ => rfl
theorem Fk.trans {X Y Z : List S38} (h : Fk X Y) (k : Fk Y Z) : Fk X Z := fun i => (k i).trans (h i)
theorem Fk.mid {X Y : List S38} (h : Fk X Y) (P S : List S38) : Fk (P ++ X ++ S) (P ++ Y ++ S) := fun k => by
  simp only [List.filter_append, h k]
theorem Fk.length {X Y : List S38} (h : Fk X Y) : Y.length = X.length := by
  induction X generalizing Y with
  | nil =>
    cases Y with
    | nil => rfl
    | cons y r => have := h y.f1; simp at this
  | cons x r ih =>
    have hx := h x.f1
    rw [List.filter_cons_of_pos (by simp)] at hx
    have hm : x ∈ Y := (List.mem_filter.1 (by rw [hx]; exact List.mem_cons_self)).1
    obtain ⟨Y1, Y2, rfl, hn⟩ : ∃ Y1 Y2, Y = Y1 ++ x :: Y2 ∧ ∀ y ∈ Y1, (y.f1 == x.f1) = false := by
      clear ih h hm
      induction Y with
      | nil => simp at hx
      | cons y t iht =>
        by_cases e : (y.f1 == x.f1) = true
        · rw [List.filter_cons_of_pos (by simpa using e)] at hx
          injection hx with h1 h2
          subst h1
          exact ⟨[], t, rfl, by simp⟩
        · have e' : (y.f1 == x.f1) = false := by simpa using e
          rw [List.filter_cons_of_neg (by simpa using e)] at hx
          obtain ⟨a, b, rfl, hn⟩ := iht hx
          exact ⟨y :: a, b, rfl, fun z hz => by
            rcases List.mem_cons.1 hz with rfl | hz
            · exact e'
            · exact hn z hz⟩
    have h2 : Fk r (Y1 ++ Y2) := fun k => by
      have := h k
      simp only [List.filter_append, List.filter_cons] at this ⊢
      by_cases e : (x.f1 == k) = true
      · rw [if_pos e, if_pos e] at this
        have e2 : k = x.f1 := by simpa using (eq_comm.1 (by simpa using e : x.f1 = k))
        subst e2
        have hnil : Y1.filter (fun y => y.f1 == x.f1) = [] := List.filter_eq_nil_iff.2 (fun y hy => by rw [hn y hy]; decide)
        rw [hnil] at this ⊢
        simpa using this
      · rw [if_neg e, if_neg e] at this
        exact this
    have := ih h2
    simp only [List.length_append, List.length_cons] at this ⊢
    omega
theorem SS.fk {X Y : List S38} (h : SS X Y) : Fk X Y := h.2
theorem SS.length {X Y : List S38} (h : SS X Y) : Y.length = X.length := h.fk.length
theorem SS.of {X Y : List S38} (h : Srt Y) (k : Fk X Y) : SS X Y := ⟨h, k⟩
theorem fk_swap {A B : List S38} (h : ∀ a ∈ A, ∀ b ∈ B, b.f1 < a.f1) : Fk (A ++ B) (B ++ A) := fun k => by
  rw [List.filter_append, List.filter_append]
  by_cases ha : A.filter (fun x => x.f1 == k) = []
  · rw [ha, List.append_nil, List.nil_append]
  · have hb : B.filter (fun x => x.f1 == k) = [] := List.filter_eq_nil_iff.2 (fun b hb e => by
      obtain ⟨a, hm⟩ := List.exists_mem_of_ne_nil _ ha
      obtain ⟨h1, h2⟩ := List.mem_filter.1 hm
      have := h a h1 b hb
      simp at h2 e
      omega)
    rw [hb, List.append_nil, List.nil_append]
theorem srt_append {A B : List S38} (ha : Srt A) (hb : Srt B) (h : ∀ a ∈ A, ∀ b ∈ B, a.f1 ≤ b.f1) : Srt (A ++ B) := List.pairwise_append.2 ⟨ha, hb, h⟩
theorem srt_left {A B : List S38} (h : Srt (A ++ B)) : Srt A := (List.pairwise_append.1 h).1
theorem srt_right {A B : List S38} (h : Srt (A ++ B)) : Srt B := (List.pairwise_append.1 h).2.1
theorem srt_cross {A B : List S38} (h : Srt (A ++ B)) : ∀ a ∈ A, ∀ b ∈ B, a.f1 ≤ b.f1 := (List.pairwise_append.1 h).2.2
theorem srt_last {A : List S38} {x : S38} (h : Srt (A ++ [x])) : ∀ a ∈ A ++ [x], a.f1 ≤ x.f1 := fun a ha => by
  rcases List.mem_append.1 ha with ha | ha
  · exact srt_cross h a ha x (List.mem_singleton.2 rfl)
  · rw [List.mem_singleton.1 ha]; exact Int.le_refl _
theorem SS.turn {A1 A2 B1 B2 C D : List S38} (ha : Srt (A1 ++ A2)) (hb : Srt (B1 ++ B2)) (h1 : ∀ a ∈ A2, ∀ b ∈ B1, b.f1 < a.f1) (h2 : ∀ a ∈ A1, ∀ b ∈ B2, a.f1 ≤ b.f1)
    (hc : SS (A1 ++ B1) C) (hd : SS (A2 ++ B2) D) : SS ((A1 ++ A2) ++ (B1 ++ B2)) (C ++ D) := by
  have hf : Fk ((A1 ++ A2) ++ (B1 ++ B2)) (C ++ D) := fun k => by
    have e := fk_swap h1 k
    rw [List.filter_append, hc.2 k, hd.2 k]
    simp only [List.filter_append] at e ⊢
    rw [List.append_assoc, List.append_assoc, ← List.append_assoc (B1.filter _), e, List.append_assoc]
  have mem : ∀ {X Y : List S38}, SS X Y → ∀ y ∈ Y, y ∈ X := fun h y hy => by
    have : y ∈ List.filter (fun x => x.f1 == y.f1) _ := List.mem_filter.2 ⟨hy, by simp⟩
    rw [h.2 y.f1] at this
    exact (List.mem_filter.1 this).1
  refine ⟨srt_append hc.1 hd.1 (fun c hc' d hd' => ?_), hf⟩
  rcases List.mem_append.1 (mem hc c hc') with q1 | q1 <;> rcases List.mem_append.1 (mem hd d hd') with q2 | q2
  · exact srt_cross ha c q1 d q2
  · exact h2 c q1 d q2
  · exact Int.le_of_lt (h1 d q2 c q1)
  · exact srt_cross hb c q1 d q2
def swp (xs : List S38) (i j : Nat) : List S38 := (xs.set i (xs.getD j z38)).set j (xs.getD i z38)
theorem swp_len (xs : List S38) (i j : Nat) : (swp xs i j).length = xs.length := by unfold swp; simp
theorem swp_at (L R M : List S38) (x y : S38) : swp (L ++ x :: (M ++ y :: R)) L.length (L.length + 1 + M.length) = L ++ y :: (M ++ x :: R) := by
  unfold swp
  have e1 : (L ++ x :: (M ++ y :: R)).getD (L.length + 1 + M.length) z38 = y := by
    rw [List.getD_eq_getElem?_getD, List.getElem?_append_right (by omega), show L.length + 1 + M.length - L.length = M.length + 1 by omega, List.getElem?_cons_succ, List.getElem?_append_right (Nat.le_refl _), Nat.sub_self]
    rfl
  have e2 : (L ++ x :: (M ++ y :: R)).getD L.length z38 = x := by
    rw [List.getD_eq_getElem?_getD, List.getElem?_append_right (Nat.le_refl _), Nat.sub_self]
    rfl
  rw [e1, e2, List.set_append_right _ _ (Nat.le_refl _), Nat.sub_self, List.set_cons_zero, List.set_append_right _ _ (by omega), show L.length + 1 + M.length - L.length = M.length + 1 by omega, List.set_cons_succ, List.set_append_right _ _ (Nat.le_refl _), Nat.sub_self, List.set_cons_zero]
theorem swp_comm (xs : List S38) {i j : Nat} (h : i ≠ j) : swp xs i j = swp xs j i := by
  unfold swp
  rw [List.set_comm _ _ h]
theorem swp_next (L R : List S38) (x y : S38) : swp (L ++ x :: y :: R) L.length (L.length + 1) = L ++ y :: x :: R := swp_at L R [] x y
theorem get_mid (L R : List S38) (x : S38) : (L ++ x :: R).getD L.length z38 = x := by
  rw [List.getD_eq_getElem?_getD, List.getElem?_append_right (Nat.le_refl _), Nat.sub_self]
  rfl
theorem part_at {l : List S38} {i : Nat} (h : i < l.length) : l = l.take i ++ l.getD i z38 :: l.drop (i + 1) ∧ (l.take i).length = i := by
  have e : l.getD i z38 = l[i] := by rw [List.getD_eq_getElem?_getD, List.getElem?_eq_getElem h]; rfl
  exact ⟨by rw [e, ← List.drop_eq_getElem_cons h, List.take_append_drop], by rw [List.length_take]; omega⟩
end Go.Proofs.Ytgdhciilobnelaa.B
namespace Go.RS
set_option linter.unusedVariables false
theorem seq_ev {P : Program} {l : List Oper} {Q : Exit → Act → World → Prop} {T : Array Value} {S : (Nat → Bool) → World → Prop} {a0 : Act}
    (hd : depsOk .any l.toArray = true) (hsz : T.size = a0.tmps.size) (hT : ∀ t, (∀ (i : Nat) (o : Oper), l.toArray[i]? = some o → o.dst ≠ some t) → T.getD t undef = a0.tmps.getD t undef)
    (hstep : ∀ i o, l.toArray[i]? = some o → StepE P .any l.toArray T S i o) (hQ : ∀ f w, (∀ k, f k = true) → S f w → Q .normal { a0 with tmps := T } w) :
    ∀ (suf pre : List Oper) (a : Act) (w : World), l = pre ++ suf → Closed .any l.toArray (lk l.length pre.length) → Inv l.toArray T a0 (lk l.length pre.length) a → S (fun k => (lk l.length pre.length).getD k true) w → wpList P l.toArray Q suf a w := by
  intro suf
  induction suf with
  | nil =>
    intro pre a w hl hc hI hS
    have he : pre.length = l.length := by rw [hl]; simp
    show Q .normal a w
    have hall : ∀ i, i < l.toArray.size → (lk l.length pre.length).getD i true = true := fun i hi => by rw [lk_get _ _ _ _ (by simpa using hi)]; simp at hi; simp; omega
    rw [inv_end hsz hT hI hall]
    refine hQ _ w (fun k => ?_) hS
    rcases Nat.lt_or_ge k l.toArray.size with h | h
    · exact hall k h
    · rw [Array.getD_eq_getD_getElem?, Array.getElem?_eq_none (by simp [lk] at h ⊢; omega)]; rfl
  | cons o suf ih =>
    intro pre a w hl hc hI hS
    have hlen : l.length = pre.length + suf.length + 1 := by rw [hl]; simp; omega
    have ho : l.toArray[pre.length]? = some o := by simp [hl]
    have hsp := deps_spec hd ho
    have hun : (lk l.length pre.length).getD pre.length true = false := by rw [lk_get _ _ _ _ (by omega)]; simp
    have hdep : ∀ e ∈ o.after, Region.binds .any e = true → (lk l.length pre.length).getD e.on false = true := fun e he hb => by
      have := hsp.1 e he hb
      rw [lk_get _ _ _ _ (by omega)]; simpa using this
    have hupd : (fun k => ((lk l.length pre.length).setIfInBounds pre.length true).getD k true) = upd (fun k => (lk l.length pre.length).getD k true) pre.length := by
      funext k
      unfold upd
      rw [listed_set hun]
      by_cases e : k = pre.length
      · subst e; simp
      · rw [if_neg (fun h => e h.symm), if_neg e]
    obtain ⟨s1, s2⟩ := hstep pre.length o ho (fun k => (lk l.length pre.length).getD k true) w hun
      (fun k hk => getD_true (waits_due hk o ho _ hc hdep) true)
      (fun k hk hks => by
        cases hl' : (lk l.length pre.length).getD k true with
        | false => rfl
        | true =>
          have hx := Array.getElem?_eq_getElem hks
          have := getD_true (waits_due hk _ hx _ hc (hc.deps k _ hx hl')) true
          rw [hun] at this
          cases this) hS
    have h := step_core (Q := Q) (S := S (upd (fun k => (lk l.length pre.length).getD k true) pre.length)) hd hsz hT hc.size ho hun hdep hI s1 s2 (K := wpList P l.toArray Q suf)
      (fun u w' hi' hs' => by
        have hc' := hc.next ho hun hdep
        rw [← hupd] at hs'
        rw [lk_set _ _ (by omega)] at hi' hc' hs'
        exact ih (pre ++ [o]) _ _ (by simp [hl]) (by simpa using hc') (by simpa using hi') (by simpa using hs'))
    show (if Region.wanted o (yielded l.toArray a.tmps) then o.wp P a w (wpList P l.toArray Q suf) Q ∨ (o.asks P a w ∧ LetsOut Q) else wpList P l.toArray Q suf (a.put o.dst undef) w)
    by_cases hw : Region.wanted o (yielded l.toArray a.tmps) = true
    · rw [if_pos hw] at h ⊢
      exact .inl h
    · rw [if_neg hw] at h ⊢
      exact h
theorem wp_textE {P : Program} {id : Nat} {l : List Oper} {Q : Exit → Act → World → Prop} {a : Act} {w : World} (L : List (Nat × Value)) (S : (Nat → Bool) → World → Prop)
    (hd : depsOk .any l.toArray = true) (hk : keysOk l.toArray (L.map (·.1)) = true)
    (hS : ∀ f, (∀ k, k < l.length → f k = false) → S f w) (hstep : AllE P .any l.toArray (sets a.tmps L) S 0 l)
    (hQ : ∀ f w', (∀ k, f k = true) → S f w' → Q .normal { a with tmps := sets a.tmps L } w') : (Code.region id l.toArray false).wp P Q a w := by
  have h0 : ∀ i, i < l.length → (lk l.length 0).getD i true = false := fun i hi => by rw [lk_get _ _ _ _ hi]; simp
  refine wp_region_lit (seq_ev hd (sets_size _ _) (fun t ht => keys_T hk t ht) (fun i o ho => by have := hstep.at_ i o (by simpa using ho); rwa [Nat.zero_add] at this) hQ l [] a w rfl ?_ ?_ (hS _ h0))
  · refine ⟨by simp [lk], fun j o hj hl => ?_⟩
    have hlt := (Array.getElem?_eq_some_iff.1 hj).1
    rw [lk_get _ _ _ _ (by simpa using hlt)] at hl
    simp at hl
  · refine ⟨rfl, rfl, fun i o d hi hdst hl => ?_, fun t _ => rfl⟩
    have hlt := (Array.getElem?_eq_some_iff.1 hi).1
    rw [lk_get _ _ _ _ (by simpa using hlt)] at hl
    simp at hl
theorem seq1 {P : Program} {ops : Array Oper} {Q : Exit → Act → World → Prop} {rest : List Oper} {o : Oper} {a : Act} {w : World} (hg : Region.wanted o (yielded ops a.tmps) = true) (v : Value)
    (h : (execOp a.eval o).run P w = .ok (.value v) w) (k : wpList P ops Q rest (a.put o.dst v) w) : wpList P ops Q (o :: rest) a w := by
  show (if Region.wanted o (yielded ops a.tmps) then o.wp P a w (wpList P ops Q rest) Q ∨ (o.asks P a w ∧ LetsOut Q) else wpList P ops Q rest (a.put o.dst undef) w)
  rw [if_pos hg]
  refine .inl ?_
  unfold Oper.wp
  rw [h]
  exact k
theorem seqE {P : Program} {ops : Array Oper} {Q : Exit → Act → World → Prop} {rest : List Oper} {o : Oper} {a : Act} {w w' : World} (hg : Region.wanted o (yielded ops a.tmps) = true) {v : Value}
    (h : (execOp a.eval o).run P w = .ok (.value v) w') (k : wpList P ops Q rest (a.put o.dst v) w') : wpList P ops Q (o :: rest) a w := by
  show (if Region.wanted o (yielded ops a.tmps) then o.wp P a w (wpList P ops Q rest) Q ∨ (o.asks P a w ∧ LetsOut Q) else wpList P ops Q rest (a.put o.dst undef) w)
  rw [if_pos hg]
  refine .inl ?_
  unfold Oper.wp
  rw [h]
  exact k
theorem seqS {P : Program} {ops : Array Oper} {Q : Exit → Act → World → Prop} {rest : List Oper} {o : Oper} {a : Act} {w w' : World} (hg : Region.wanted o (yielded ops a.tmps) = true)
    (h : (execOp a.eval o).run P w = .ok .skip w') (k : wpList P ops Q rest (a.put o.dst undef) w') : wpList P ops Q (o :: rest) a w := by
  show (if Region.wanted o (yielded ops a.tmps) then o.wp P a w (wpList P ops Q rest) Q ∨ (o.asks P a w ∧ LetsOut Q) else wpList P ops Q rest (a.put o.dst undef) w)
  rw [if_pos hg]
  refine .inl ?_
  unfold Oper.wp
  rw [h]
  exact k
theorem seqC {P : Program} {ops : Array Oper} {Q : Exit → Act → World → Prop} {rest : List Oper} {o : Oper} {a : Act} {w : World} (hg : Region.wanted o (yielded ops a.tmps) = true) {f : Nat} {args : Array Value}
    (h : (execOp a.eval o).run P w = .ok (.enter f args) w) (k : Calls P f args w fun e w' => ∃ v, e = .returned v ∧ wpList P ops Q rest (a.put o.dst v) w') : wpList P ops Q (o :: rest) a w := by
  show (if Region.wanted o (yielded ops a.tmps) then o.wp P a w (wpList P ops Q rest) Q ∨ (o.asks P a w ∧ LetsOut Q) else wpList P ops Q rest (a.put o.dst undef) w)
  rw [if_pos hg]
  refine .inl ?_
  unfold Oper.wp
  rw [h]
  exact k.mono fun e w2 he => by obtain ⟨v, rfl, hr⟩ := he; exact hr
section
variable {P : Program} {ops : Array Oper} {Q : Exit → Act → World → Prop} {rest : List Oper} {o : Oper} {tm : Array Value} {df : List Deferred} {w w' : World}
theorem t1 (d : Nat) (hd : o.dst = some d) (hg : Region.wanted o (yielded ops tm) = true) (v : Value) (h : (execOp (Act.eval ⟨tm, df⟩) o).run P w = .ok (.value v) w) (k : wpList P ops Q rest ⟨tm.setIfInBounds d v, df⟩ w) : wpList P ops Q (o :: rest) ⟨tm, df⟩ w :=
  seq1 hg v h (by rw [hd]; exact k)
theorem tE (d : Nat) (hd : o.dst = some d) (hg : Region.wanted o (yielded ops tm) = true) {v : Value} (h : (execOp (Act.eval ⟨tm, df⟩) o).run P w = .ok (.value v) w') (k : wpList P ops Q rest ⟨tm.setIfInBounds d v, df⟩ w') : wpList P ops Q (o :: rest) ⟨tm, df⟩ w :=
  seqE hg h (by rw [hd]; exact k)
theorem tS (hd : o.dst = none) (hg : Region.wanted o (yielded ops tm) = true) (h : (execOp (Act.eval ⟨tm, df⟩) o).run P w = .ok .skip w') (k : wpList P ops Q rest ⟨tm, df⟩ w') : wpList P ops Q (o :: rest) ⟨tm, df⟩ w :=
  seqS hg h (by rw [hd]; exact k)
theorem tC (d : Nat) (hd : o.dst = some d) (hg : Region.wanted o (yielded ops tm) = true) {f : Nat} {args : Array Value} (h : (execOp (Act.eval ⟨tm, df⟩) o).run P w = .ok (.enter f args) w) (k : Calls P f args w fun e w' => ∃ v, e = .returned v ∧ wpList P ops Q rest ⟨tm.setIfInBounds d v, df⟩ w') : wpList P ops Q (o :: rest) ⟨tm, df⟩ w :=
  seqC hg h (k.mono fun e w2 he => by obtain ⟨v, rfl, hr⟩ := he; exact ⟨v, rfl, by rw [hd]; exact hr⟩)
end
end Go.RS
