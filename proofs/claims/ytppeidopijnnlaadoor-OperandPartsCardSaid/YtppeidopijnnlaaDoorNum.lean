/- The closure 'number' of operand.Put: it appends a displacement's bytes. -/
import Derived.Test.YtppeidopijnnlaaDoorTakeR
import Derived.Deep.AppendLies
import Derived.Deep.RegionLaw
namespace Go.Proofs.YtppeidopijnnlaaDoor.B
open Go.RowKit Go.Proofs.YtppeidopijnnlaaDoorW.PrintWords Go.Proofs.YtppeidopijnnlaaDoorW.PrintMore Go.RF
set_option linter.unusedVariables false
set_option linter.unusedSimpArgs false
attribute [local go_sem] Oper.semAt_some
def byteAt (dp : Int) (j : Nat) : Int := IntKind.u8.wrap (dp / 2 ^ (8 * j))
def dispB (dp : Int) (n : Nat) : List Int := (List.range n).map (byteAt dp)
theorem infoB : (Tryd.prog.info? 5).map (fun i => (i.zero, i.size, i.bytes)) = some (some (.int .u8 0), 1, 1) := by kernel_rfl
theorem shift_run (dp : Int) (i : Nat) (hi : i < 4) (W : World) : Sem.run Tryd.prog (Op.shift BinOp.shr IntKind.i64 dp IntKind.i64 (IntKind.i64.wrap (8 * (i : Int)))) W = .ok (.int .i64 (dp / 2 ^ (8 * i))) W := by
  have h : IntKind.i64.wrap (8 * (i : Int)) = 8 * i := wrap_small _ (by omega) (by omega)
  rw [h]
  unfold Op.shift
  rw [if_neg (by omega)]
  have hm : min (8 * (i : Int)).toNat IntKind.i64.bits = 8 * i := by
    have : IntKind.i64.bits = 64 := rfl
    omega
  rw [hm]
  have hp : dp.fdiv (2 ^ (8 * i)) = dp / 2 ^ (8 * i) := by
    have : (0 : Int) ≤ 2 ^ (8 * i) := Int.pow_nonneg (by omega)
    exact Int.fdiv_eq_ediv_of_nonneg _ this
  show Sem.run Tryd.prog (pure (Value.int .i64 (dp.fdiv (2 ^ (8 * i)))) : Sem Value) W = _
  rw [hp]
  rfl
set_option maxHeartbeats 8000000 in
set_option maxRecDepth 100000 in
theorem number_calls (bb rb n base : Nat) (v : Value) (xs : List Int) (v0 v1 v2 v3 v4 v6 v7 : Value) (dp : Int) (w : World) (hn : n ≤ 4) (hxs : xs.length ≤ 100) (hb : w.heap[bb]? = some (.cells #[v] 24 (0, 0))) (hr : w.heap[rb]? = some (.cells #[v0, v1, v2, v3, v4, .int .i64 dp, v6, v7] 23 (0, 0)))
    (ho : w.ownsRow base 5 1 v xs.length (nums .u8 xs)) (hbb : bb < base) (hrb : rb < base) (hne : bb ≠ rb) (hbs : base ≤ w.heap.size) :
    Calls Tryd.prog 25 #[.int .i64 n, .pointer (some ⟨bb, 0, none⟩), .pointer (some ⟨rb, 0, none⟩)] w fun e w' => (∃ u, e = .returned u) ∧ ∃ v', w'.heap[bb]? = some (.cells #[v'] 24 (0, 0)) ∧ w'.ownsRow base 5 1 v' (xs.length + n) (nums .u8 (xs ++ dispB dp n)) ∧ Keeps (fun k => k = bb ∨ base ≤ k) w w' := by
  have HB := Aside0.mk hb
  have HRR := Aside0.mk hr
  have HO := Aside0.mk ho
  clear hb hr ho
  go_enter Tryd.func25, Tryd.ntmps25
  go_wp2
  go_loopg [6] n (fun kq t6 w' => ∃ (i : Nat) (v' : Value), t6 = .int .i64 i ∧ Aside0 (i + kq = n) ∧ Aside0 (w'.heap[bb]? = some (.cells #[v'] 24 (0, 0))) ∧ Aside0 (w'.ownsRow base 5 1 v' (xs.length + i) (nums .u8 (xs ++ dispB dp i))) ∧ Aside0 (Keeps (fun k => k = bb ∨ base ≤ k) w w'))
  case atStart => exact ⟨0, v, rfl, ⟨by omega⟩, HB, ⟨by simpa [dispB] using HO.out⟩, ⟨Keeps.refl _ _⟩⟩
  case round =>
    obtain ⟨i, v', rfl, HI, HV, HO', HK⟩ := hrel
    have hbw : base ≤ wr.heap.size := Nat.le_trans hbs HK.out.size
    have hbbw : bb < wr.heap.size := by omega
    have hrbw : rb < wr.heap.size := by omega
    have hgk := HI.out
    by_cases hi : i < n
    · obtain ⟨k1, rfl⟩ : ∃ k1, gk = k1 + 1 := ⟨gk - 1, by omega⟩
      have e1 : decide ((i : Int) < (n : Int)) = true := decide_eq_true (by omega)
      have E3 : Aside0 (wrap64 ((i : Int) + 1) = i + 1) := ⟨by unfold wrap64; omega⟩
      have hml : xs.length + i + 1 ≤ maxLen := by unfold maxLen; omega
      have hml2 : (xs.length + i + 1) * 1 ≤ 140737488355328 := by omega
      have hi4 : i < 4 := by omega
      have hbw1 : base ≤ wr.heap.size + 1 := by omega
      obtain ⟨qb, zb⟩ := cell_of_block HV.out
      have qd : wr.cell? ⟨rb, 5, none⟩ = some (.int .i64 dp) := by rw [blk_cell (HK.out.at_ HRR.out (by omega))]; rfl
      go_upto_block 1 with (fail)
      go_cut [4] from 7 to 17 (fun v4 wc => ∃ v2 : Value, Aside0 (wc.heap[bb]? = some (.cells #[v2] 24 (0, 0))) ∧ Aside0 (wc.ownsRow base 5 1 v2 (xs.length + (i + 1)) (nums .u8 (xs ++ dispB dp (i + 1)))) ∧ Aside0 (Keeps (fun k => k = bb ∨ base ≤ k) w wc))
      case first =>
        go_upto_region 3 with (fail)
        have hnb : ∀ k, v'.ownBlock = some k → base ≤ k := own_base HO'.out
        obtain ⟨i0, hi0, hzz⟩ := Option.map_eq_some_iff.1 infoB
        simp only [Prod.mk.injEq] at hzz
        obtain ⟨hz0, hz1, hz2⟩ := hzz
        have hsh := fun W => shift_run dp i hi4 W
        have QA : ∀ o, (wr.alloc o).cell? ⟨bb, 0, none⟩ = some v' := fun o => (World.cell?_alloc_some _ _ _ (by rw [qb]; rfl)).trans qb
        have ZA : ∀ o, (wr.alloc o).frozen? ⟨bb, 0, none⟩ = false := fun o => (World.frozen?_alloc_past o bb 0 hbbw).trans zb
        go_region_law
          ((refine step_append_lies _ (by rfl) _ _ _ (by rfl) base 5 i0 _ 1 1 Tryd.underlying24 hi0 hz0 hz1 hz2 rfl (by omega) v' _ _ (by rfl) ((HO'.out.alloc _).drew) ⟨wr.heap.size, 0, none⟩ 1 1 [.int .u8 (byteAt dp i)] (by rfl) (by rfl) (World.news_of_block (cs := #[.int .u8 (byteAt dp i)]) (t := 5) (fr := (0, 0)) (World.alloc_heap_new wr _)) (by simp [Value.oneCell']) (by omega) hml hml2 (by simp; exact hbw1) (wr.heap.size + 1) (by simp) ?_; intro g cap w1 hown hgrow hat hlt; have qb1 : w1.cell? ⟨bb, 0, none⟩ = some v' := (hgrow.cell_far ⟨bb, 0, none⟩ (by simp; omega) (fun e => absurd (hnb _ e.symm) (Nat.not_le.2 hbb))).trans (QA _); have zb1 : w1.frozen? ⟨bb, 0, none⟩ = false := (hgrow.frozen_far ⟨bb, 0, none⟩ (by simp; omega) (fun e => absurd (hnb _ e.symm) (Nat.not_le.2 hbb))).trans (ZA _)))
        all_goals have HOW := Aside0.mk hown
        all_goals have HGR := Aside0.mk hgrow
        all_goals have hal : ∀ o, (wr.alloc o).heap[bb]? = some (.cells #[v'] 24 (0, 0)) := fun o => (Below.heap_alloc _ _ _ hbbw).trans HV.out
        all_goals have hb1 : w1.heap[bb]? = some (.cells #[v'] 24 (0, 0)) := (HGR.out.block bb (by simp; omega) (fun e => absurd (hnb _ e.symm) (Nat.not_le.2 hbb))).trans (hal _)
        all_goals have hkp : Keeps (fun k => k = bb ∨ base ≤ k) wr w1 := Keeps.trans ((Keeps.refl _ wr).alloc (.cells #[.int .u8 (byteAt dp i)] 5)).drew (Keeps.of_grown HGR.out (fun k e => Or.inr (hnb k e)))
        all_goals clear hown hgrow hat hlt qb1 zb1 QA ZA hsh
        all_goals try go_wp2
        all_goals go_meet
        all_goals refine ⟨_, ⟨blk_store hb1 _⟩, ⟨?_⟩, ⟨HK.out.trans (hkp.setCell _ _ (.inl rfl))⟩⟩
        all_goals rw [show dispB dp (i + 1) = dispB dp i ++ [byteAt dp i] by simp [dispB, List.range_succ], ← List.append_assoc, nums_append]
        all_goals exact own_setCell HOW.out (p := ⟨bb, 0, none⟩) (fun e => absurd (own_base HOW.out _ e.symm) (Nat.not_le.2 hbb)) _
      case rest =>
        obtain ⟨v2, HV2, HO2, HK2⟩ := hcut
        have e3 := E3.out
        clear e1 hml hml2
        go_wp2_with fail
        go_roundg k1
        case measure => omega
        case rel => exact ⟨i + 1, v2, by simp, ⟨by omega⟩, HV2, HO2, HK2⟩
    · have e1 : decide ((i : Int) < (n : Int)) = false := decide_eq_false (by omega)
      go_wp2
      have hin : i = n := by omega
      subst hin
      refine bodyPost_end (results_none rfl _ _ _) rfl ⟨⟨_, rfl⟩, v', HV.out, HO'.out, HK.out⟩
end Go.Proofs.YtppeidopijnnlaaDoor.B
