/- The law CpuBack, walked along its one true way, for each width. -/
import Derived.Test.YtpmclnlgipphmaaDoorBq10
namespace Go.Proofs.YtpmclnlgipphmaaDoor.B
open Go.RowKit Go.Proofs.YtpmclnlgipphmaaDoorW.PrintWords Go.Proofs.YtpmclnlgipphmaaDoorW.PrintMore Go.RF
set_option linter.unusedVariables false
set_option linter.unusedSimpArgs false
set_option maxHeartbeats 8000000 in
set_option maxRecDepth 100000 in
theorem back_1 (cs : Array Value) (i : Nat) (v x ip : Int) (C Z S O P : Bool) (w0 : World) (hsz : cs.size = 278) (h1c : cs.all (·.oneCell') = true) (hi1 : i < 16) (hR : ∀ k, k < 16 → ∃ n, cs[k]? = some (.int .u64 n)) (hv : cs[i]? = some (.int .u64 v)) (hv0 : 0 ≤ v) (hv1 : v < 18446744073709551616) (hx0 : 0 ≤ x) (hx1 : x < 18446744073709551616)
    (hX : ∀ k, k < 256 → ∃ n, (cs.extract 16 272)[k]? = some (.int .u8 n)) (hF : cs.extract 272 277 = #[.bool C, .bool Z, .bool S, .bool O, .bool P]) (hip : cs[277]? = some (.int .u64 ip)) (hT : Tab w0) :
    Calls Tryd.prog 3 #[.agg cs, .int .i64 (i : Int), .int .i64 1, .int .u64 x] w0 fun e w' => e = .returned (.bool true) ∧ Below w0.heap.size w0 w' := by
  have hu29 := Tryd.underlying29
  have hi : Go.bits .and .i64 (i : Int) 15 = i := by rw [and15 _ (by omega) (by omega)]; omega
  have hm : cpu_mask.f 1 = some 255 := by kernel_rfl
  obtain ⟨nv, hnv⟩ : ∃ k, (Go.bits .or .u64 (Go.bits .andNot .u64 v 255) (Go.bits .and .u64 x 255)) = k := ⟨_, rfl⟩
  obtain ⟨ds, hds⟩ : ∃ d, cs.setIfInBounds i (.int .u64 nv) = d := ⟨_, rfl⟩
  have hdsz : ds.size = 278 := by rw [← hds]; simpa using hsz
  have hd1 : ds.all (·.oneCell') = true := by rw [← hds]; exact all_set h1c i rfl
  have hdi : ds[i]? = some (.int .u64 nv) := by rw [← hds, Array.getElem?_setIfInBounds, if_pos rfl, if_pos (by omega)]
  have hdo : ∀ k, k ≠ i → ds[k]? = cs[k]? := fun k hk => by rw [← hds, Array.getElem?_setIfInBounds, if_neg (fun h => hk h.symm)]
  have hdR : ∀ k, k < 16 → ∃ n, ds[k]? = some (.int .u64 n) := fun k hk => by
    by_cases e : k = i
    · subst e; exact ⟨nv, hdi⟩
    · rw [hdo k e]; exact hR k hk
  have hext : ∀ a b, 16 ≤ a → ds.extract a b = cs.extract a b := fun a b ha => by
    apply Array.ext_getElem?
    intro k
    simp only [Array.getElem?_extract, hdsz, hsz]
    split
    · exact hdo _ (by omega)
    · rfl
  have hdF := (hext 272 277 (by omega)).trans hF
  have hdX := hext 16 272 (by omega)
  have hdip : ds[277]? = some (.int .u64 ip) := (hdo 277 (by omega)).trans hip
  have hset : Go.bits .or .u64 (keepF 1 v 255) (Go.bits .and .u64 x 255) = nv := by unfold keepF; rw [if_pos (by decide)]; exact hnv
  have hgot : Go.bits .and .u64 nv 255 = (Go.bits .and .u64 x 255) := by rw [← hnv]; exact set_got v 255 x
  have habove : Go.bits .xor .u64 nv (Go.bits .and .u64 x 255) = (Go.bits .andNot .u64 v 255) := by rw [← hnv]; exact set_above v 255 x
  have hback : Go.bits .or .u64 (keepF 1 nv 255) (Go.bits .and .u64 v 255) = v := by unfold keepF; rw [if_pos (by decide), ← hnv]; exact set_back v 255 x hv0 hv1
  have c0 : decide ((i : Int) < 0) = false := decide_eq_false (by omega)
  have c1 : decide (15 < (i : Int)) = false := decide_eq_false (by omega)
  have c2 : decide (15 < i) = false := decide_eq_false (by omega)
  have HR := Aside0.mk hR
  have HV := Aside0.mk hv
  have HM := Aside0.mk hm
  have HI := Aside0.mk hi
  have HSZ := Aside0.mk hsz
  have H1C := Aside0.mk h1c
  have HDSZ := Aside0.mk hdsz
  have HD1 := Aside0.mk hd1
  have HDI := Aside0.mk hdi
  have HDO := Aside0.mk hdo
  have HDR := Aside0.mk hdR
  have HF := Aside0.mk hF
  have HDF := Aside0.mk hdF
  have HX := Aside0.mk hX
  have HDX := Aside0.mk hdX
  have HIP := Aside0.mk hip
  have HDIP := Aside0.mk hdip
  have HSET := Aside0.mk hset
  have HGOT := Aside0.mk hgot
  have HAB := Aside0.mk habove
  have HDS := Aside0.mk hds
  have b0 := World.alloc_heap_new w0 (.cells cs 29)
  have hbl : Below w0.heap.size w0 (w0.alloc (.cells cs 29)) := bX_ (Below.refl _ _) _
  have B0 := Aside0.mk b0
  have HB := Aside0.mk hbl
  have HT := Aside0.mk hT
  have HBK := Aside0.mk hback
  clear hback
  clear b0 hbl hR hv hm hi hsz h1c hdsz hd1 hdi hdo hdR hF hdF hX hdX hip hdip hset hgot habove hds hT hext hnv
  go_enter Tryd.func3, Tryd.ntmps3
  go_upto_region 3 with (fail)
  generalize w0.alloc (.cells cs 29) = w1 at *
  have hin : (Tryd.prog.info? 29).map (·.size) = some cs.size := by rw [HSZ.out]; exact size29
  have HIN := Aside0.mk hin
  clear hin
  go_upto_region 4 with (first | (with_reducible refine wpList_load_row rfl 29 (.tmp 4) rfl w0.heap.size rfl 29 cs (0, 0) _ B0.out hu29 rfl HIN.out ?_) | (go_at_call 7; refine (set_calls cs (i : Int) 1 v 255 x i _ HSZ.out H1C.out HI.out hi1 HV.out HM.out).mono ?_; rintro e w2 ⟨rfl, hb⟩; rw [HSET.out, HDS.out]; have n0 := Aside0.mk (blk_below B0.out hb); have n1 := Aside0.mk (below_step HB.out hb); clear B0 HB hb; have B0 := n0; have HB := n1; clear n0 n1) | ((with_reducible refine gate_dst (N := 9) rfl ?_); refine box_event rfl (N := 9) rfl (cs := Z29) (t := 29) (by show Sem.run Tryd.prog _ _ = _; simp only [execOp, Sem.run_bind, run_alloc29, Result.andThen_ok, Sem.run_pure]) ?_; intro g1 hg w3 hbox hb; have HL := Aside0.mk (show w0.heap.size < g1 by have := blk_lt B0.out; omega); have n0 := Aside0.mk (blk_below B0.out hb); have n1 := Aside0.mk (below_step HB.out hb); have B1 := Aside0.mk hbox; have HG := Aside0.mk hg; clear B0 HB hb hbox hg; have B0 := n0; have HB := n1; clear n0 n1) | (with_reducible refine wpList_store_row rfl 29 (.tmp 9) (.tmp 40) rfl g1 ds rfl rfl 29 Z29 B1.out (by rw [HDSZ.out]; exact size29) (by rw [HDSZ.out]; kernel_rfl) HD1.out ?_))
  have hkp := keeps_setRow w3 g1 ds
  have hs : BkS w0 w0.heap.size g1 cs ds (w3.setRow g1 ds) := by
    have hB := HB.out.trans (hkp.below HB.out.size (fun k hk h => by have := HL.out; omega))
    exact ⟨hkp.at_ B0.out (by have := HL.out; omega), setRow_heap w3 g1 Z29 ds 29 (0, 0) B1.out, HT.out.below hB, hB⟩
  have HS := Aside0.mk hs
  clear hs hkp B0 B1 HB HIN
  generalize w3.setRow g1 ds = w4 at *
  obtain ⟨g0, hg0⟩ : ∃ g, w0.heap.size = g := ⟨_, rfl⟩
  rw [hg0] at HS
  (try rw [hg0])
  have HG0 := Aside0.mk hg0
  clear hg0 HT
  go_upto_region 6 with (fail)
  refine RS.wp_text [(44, .int .u64 x), (45, .int .i64 1), (46, .int .i64 8), (47, .int .u64 8), (48, .int .u64 256), (49, .int .u64 255), (50, .int .u64 (Go.bits .and .u64 x 255)), (10, .int .u64 (Go.bits .and .u64 x 255))] (BkS w0 g0 g1 cs ds) (by kernel_rfl) (by kernel_rfl) HS.out ?_ ?_
  · exact ⟨RS.StepOK.pure 44 (by kernel_rfl) rfl (fun w => by kernel_rfl),
      RS.StepOK.pure 45 (by kernel_rfl) rfl (fun w => by kernel_rfl),
      RS.StepOK.pure 46 (by kernel_rfl) rfl (fun w => by kernel_rfl),
      RS.StepOK.pure 47 (by kernel_rfl) rfl (fun w => by kernel_rfl),
      RS.StepOK.pure 48 (by kernel_rfl) rfl (fun w => by kernel_rfl),
      RS.StepOK.pure 49 (by kernel_rfl) rfl (fun w => by kernel_rfl),
      RS.StepOK.pure 50 (by kernel_rfl) rfl (fun w => by kernel_rfl),
      RS.StepOK.pure 10 (by kernel_rfl) rfl (fun w => by kernel_rfl), trivial⟩
  rintro w5 hs
  clear HS
  have HS := Aside0.mk hs
  clear hs
  (try simp only [RS.sets, List.setIfInBounds_toArray, List.set_cons_zero, List.set_cons_succ])
  go_upto_region 7 with (fail)
  refine RS.wp_text [(51, .agg ds), (52, .int .i64 (i : Int)), (53, .int .i64 1), (54, .int .u64 (Go.bits .and .u64 x 255)), (55, .int .u64 (Go.bits .and .u64 x 255)), (56, .bool false), (57, .bool false), (58, .pointer (some ⟨g1, 272, none⟩)), (59, .agg #[.bool C, .bool Z, .bool S, .bool O, .bool P]), (60, .pointer (some ⟨g0, 272, none⟩)), (61, .agg #[.bool C, .bool Z, .bool S, .bool O, .bool P]), (62, .bool false), (63, .bool false), (64, .bool false), (65, .pointer (some ⟨g1, 16, none⟩)), (66, .agg (cs.extract 16 272)), (67, .pointer (some ⟨g0, 16, none⟩)), (68, .agg (cs.extract 16 272)), (69, .bool false), (70, .bool false), (71, .bool false), (72, .pointer (some ⟨g1, 277, none⟩)), (73, .int .u64 ip), (74, .pointer (some ⟨g0, 277, none⟩)), (75, .int .u64 ip), (76, .bool false), (77, .bool false)] (BkS w0 g0 g1 cs ds) (by kernel_rfl) (by kernel_rfl) HS.out ?_ ?_
  · exact ⟨RS.StepOK.load 51 (.agg ds) (by kernel_rfl) (by kernel_rfl) rfl (fun w hS => run_load rfl (by kernel_rfl) (load_row HDSZ.out hS.2.1)),
      RS.StepOK.pure 52 (by kernel_rfl) rfl (fun w => by kernel_rfl),
      RS.StepOK.pure 53 (by kernel_rfl) rfl (fun w => by kernel_rfl),
      RS.StepOK.call 54 8 #[.agg ds, .int .i64 (i : Int), .int .i64 1] (.int .u64 (Go.bits .and .u64 x 255)) (by kernel_rfl) (by kernel_rfl) rfl (fun w => by kernel_rfl) (fun w hS => hS.met (by rw [← HGOT.out]; exact get_calls ds (i : Int) 1 nv 255 i w HI.out hi1 HDI.out HM.out)),
      RS.StepOK.pure 55 (by kernel_rfl) rfl (fun w => by kernel_rfl),
      RS.StepOK.load 56 (.bool false) (by kernel_rfl) (by kernel_rfl) rfl (fun w hS => run_bin rfl (by kernel_rfl) (by kernel_rfl) (by kernel_rfl) (neq_u64 (Go.bits .and .u64 x 255) w)),
      RS.StepOK.pure 57 (by kernel_rfl) rfl (fun w => by kernel_rfl),
      RS.StepOK.pure 58 (by kernel_rfl) rfl (fun w => by kernel_rfl),
      RS.StepOK.load 59 (.agg #[.bool C, .bool Z, .bool S, .bool O, .bool P]) (by kernel_rfl) (by kernel_rfl) rfl (fun w hS => run_load rfl (by kernel_rfl) (by rw [← HDF.out]; exact load_F HDSZ.out hS.2.1)),
      RS.StepOK.pure 60 (by kernel_rfl) rfl (fun w => by kernel_rfl),
      RS.StepOK.load 61 (.agg #[.bool C, .bool Z, .bool S, .bool O, .bool P]) (by kernel_rfl) (by kernel_rfl) rfl (fun w hS => run_load rfl (by kernel_rfl) (by rw [← HF.out]; exact load_F HSZ.out hS.1)),
      (by cases C <;> cases Z <;> cases S <;> cases O <;> cases P <;> exact RS.StepOK.pure 62 (by kernel_rfl) rfl (fun w => by kernel_rfl)),
      RS.StepOK.pure 63 (by kernel_rfl) rfl (fun w => by kernel_rfl),
      RS.StepOK.pure 64 (by kernel_rfl) rfl (fun w => by kernel_rfl),
      RS.StepOK.pure 65 (by kernel_rfl) rfl (fun w => by kernel_rfl),
      RS.StepOK.load 66 (.agg (cs.extract 16 272)) (by kernel_rfl) (by kernel_rfl) rfl (fun w hS => run_load rfl (by kernel_rfl) (by rw [← HDX.out]; exact load_X HDSZ.out hS.2.1)),
      RS.StepOK.pure 67 (by kernel_rfl) rfl (fun w => by kernel_rfl),
      RS.StepOK.load 68 (.agg (cs.extract 16 272)) (by kernel_rfl) (by kernel_rfl) rfl (fun w hS => run_load rfl (by kernel_rfl) (load_X HSZ.out hS.1)),
      RS.StepOK.load 69 (.bool false) (by kernel_rfl) (by kernel_rfl) rfl (fun w hS => run_bin rfl (by kernel_rfl) (by kernel_rfl) (by kernel_rfl) (eq_X HX.out w)),
      RS.StepOK.pure 70 (by kernel_rfl) rfl (fun w => by kernel_rfl),
      RS.StepOK.pure 71 (by kernel_rfl) rfl (fun w => by kernel_rfl),
      RS.StepOK.pure 72 (by kernel_rfl) rfl (fun w => by kernel_rfl),
      RS.StepOK.load 73 (.int .u64 ip) (by kernel_rfl) (by kernel_rfl) rfl (fun w hS => run_load rfl (by kernel_rfl) (load_u64 hS.2.1 HDIP.out)),
      RS.StepOK.pure 74 (by kernel_rfl) rfl (fun w => by kernel_rfl),
      RS.StepOK.load 75 (.int .u64 ip) (by kernel_rfl) (by kernel_rfl) rfl (fun w hS => run_load rfl (by kernel_rfl) (load_u64 hS.1 HIP.out)),
      RS.StepOK.load 76 (.bool false) (by kernel_rfl) (by kernel_rfl) rfl (fun w hS => run_bin rfl (by kernel_rfl) (by kernel_rfl) (by kernel_rfl) (neq_u64 ip w)),
      RS.StepOK.pure 77 (by kernel_rfl) rfl (fun w => by kernel_rfl), trivial⟩
  rintro w6 hs
  clear HS
  have HS := Aside0.mk hs
  clear hs
  (try simp only [RS.sets, List.setIfInBounds_toArray, List.set_cons_zero, List.set_cons_succ])
  go_wp2_with fail
  go_loopw [11] (fun u wr => ∃ k : Nat, k ≤ 16 ∧ u = .int .i64 (k : Int) ∧ BkS w0 g0 g1 cs ds wr) (fun u _ => 16 - (RowKit.intOf u).toNat)
  case atStart => exact ⟨0, by omega, rfl, HS.out⟩
  case round =>
    obtain ⟨k, hk, rfl, hs⟩ := hrel
    clear HS
    have HS := Aside0.mk hs
    clear hs
    by_cases hk16 : k < 16
    · by_cases he : k = i
      · subst he
        go_upto_region 12 with (fail)
        refine RS.wp_drawn (by kernel_rfl) [(82, .int .i64 (k : Int)), (83, .int .i64 (k : Int)), (84, .bool false), (85, .bool false), (86, undef), (87, undef), (88, undef), (89, undef), (90, undef), (91, undef), (92, undef), (93, undef), (94, undef), (95, .bool false)] (BkS w0 g0 g1 cs ds) (by kernel_rfl) (by kernel_rfl) (HS.out.below (bW_ (Below.refl _ _) 1)) ?_ ?_
        · exact ⟨RS.StepOK.pure 82 (by kernel_rfl) rfl (fun w => by kernel_rfl),
            RS.StepOK.pure 83 (by kernel_rfl) rfl (fun w => by kernel_rfl),
            RS.StepOK.load 84 (.bool false) (by kernel_rfl) (by kernel_rfl) rfl (fun w hS => run_bin rfl (by kernel_rfl) (by kernel_rfl) (by kernel_rfl) (neq_i64 (k : Int) w)),
            RS.StepOK.pure 85 (by kernel_rfl) rfl (fun w => by kernel_rfl),
            RS.StepOK.off 86 (by kernel_rfl) rfl (by kernel_rfl),
            RS.StepOK.off 87 (by kernel_rfl) rfl (by kernel_rfl),
            RS.StepOK.off 88 (by kernel_rfl) rfl (by kernel_rfl),
            RS.StepOK.off 89 (by kernel_rfl) rfl (by kernel_rfl),
            RS.StepOK.off 90 (by kernel_rfl) rfl (by kernel_rfl),
            RS.StepOK.off 91 (by kernel_rfl) rfl (by kernel_rfl),
            RS.StepOK.off 92 (by kernel_rfl) rfl (by kernel_rfl),
            RS.StepOK.off 93 (by kernel_rfl) rfl (by kernel_rfl),
            RS.StepOK.off 94 (by kernel_rfl) rfl (by kernel_rfl),
            RS.StepOK.pure 95 (by kernel_rfl) rfl (fun w => by kernel_rfl), trivial⟩
        rintro w8 hs
        clear HS
        have HS := Aside0.mk hs
        clear hs
        (try simp only [RS.sets, List.setIfInBounds_toArray, List.set_cons_zero, List.set_cons_succ])
        go_wp2_with fail
        go_roundw
        case rel => exact ⟨k + 1, by omega, by go_num, HS.out⟩
        case measure => simp [RowKit.intOf]; omega
      · have hne : (k : Int) ≠ (i : Int) := by omega
        obtain ⟨u, hu⟩ := HR.out k hk16
        have HU := Aside0.mk hu
        have HUD := Aside0.mk ((HDO.out k he).trans hu)
        clear hu
        go_upto_region 12 with (fail)
        refine RS.wp_drawn (by kernel_rfl) [(82, .int .i64 (k : Int)), (83, .int .i64 (i : Int)), (84, .bool true), (85, .bool true), (86, .int .i64 (k : Int)), (87, .pointer (some ⟨g1, 0, none⟩)), (88, .pointer (some ⟨g1, k, none⟩)), (89, .int .u64 u), (90, .int .i64 (k : Int)), (91, .pointer (some ⟨g0, 0, none⟩)), (92, .pointer (some ⟨g0, k, none⟩)), (93, .int .u64 u), (94, .bool false), (95, .bool false)] (BkS w0 g0 g1 cs ds) (by kernel_rfl) (by kernel_rfl) (HS.out.below (bW_ (Below.refl _ _) 1)) ?_ ?_
        · exact ⟨RS.StepOK.pure 82 (by kernel_rfl) rfl (fun w => by kernel_rfl),
            RS.StepOK.pure 83 (by kernel_rfl) rfl (fun w => by kernel_rfl),
            RS.StepOK.load 84 (.bool true) (by kernel_rfl) (by kernel_rfl) rfl (fun w hS => run_bin rfl (by kernel_rfl) (by kernel_rfl) (by kernel_rfl) (neq_i64' hne w)),
            RS.StepOK.pure 85 (by kernel_rfl) rfl (fun w => by kernel_rfl),
            RS.StepOK.pure 86 (by kernel_rfl) rfl (fun w => by kernel_rfl),
            RS.StepOK.pure 87 (by kernel_rfl) rfl (fun w => by kernel_rfl),
            RS.StepOK.load 88 (.pointer (some ⟨g1, k, none⟩)) (by kernel_rfl) (by kernel_rfl) rfl (fun w hS => run_indexAddr rfl (by kernel_rfl) (by kernel_rfl) (index_at g1 k hk16 w)),
            RS.StepOK.load 89 (.int .u64 u) (by kernel_rfl) (by kernel_rfl) rfl (fun w hS => run_load rfl (by kernel_rfl) (load_u64 hS.2.1 HUD.out)),
            RS.StepOK.pure 90 (by kernel_rfl) rfl (fun w => by kernel_rfl),
            RS.StepOK.pure 91 (by kernel_rfl) rfl (fun w => by kernel_rfl),
            RS.StepOK.load 92 (.pointer (some ⟨g0, k, none⟩)) (by kernel_rfl) (by kernel_rfl) rfl (fun w hS => run_indexAddr rfl (by kernel_rfl) (by kernel_rfl) (index_at g0 k hk16 w)),
            RS.StepOK.load 93 (.int .u64 u) (by kernel_rfl) (by kernel_rfl) rfl (fun w hS => run_load rfl (by kernel_rfl) (load_u64 hS.1 HU.out)),
            RS.StepOK.load 94 (.bool false) (by kernel_rfl) (by kernel_rfl) rfl (fun w hS => run_bin rfl (by kernel_rfl) (by kernel_rfl) (by kernel_rfl) (neq_u64 u w)),
            RS.StepOK.pure 95 (by kernel_rfl) rfl (fun w => by kernel_rfl), trivial⟩
        rintro w8 hs
        clear HS
        have HS := Aside0.mk hs
        clear hs
        (try simp only [RS.sets, List.setIfInBounds_toArray, List.set_cons_zero, List.set_cons_succ])
        go_wp2_with fail
        go_roundw
        case rel => exact ⟨k + 1, by omega, by go_num, HS.out⟩
        case measure => simp [RowKit.intOf]; omega
    · obtain rfl : k = 16 := by omega
      go_upto_region 14 with (fail)
      refine RS.wp_text [(96, .int .i64 (i : Int)), (97, .pointer (some ⟨g1, 0, none⟩)), (98, .pointer (some ⟨g1, i, none⟩)), (99, .int .u64 nv), (100, .int .u64 (Go.bits .and .u64 x 255)), (101, .int .u64 (Go.bits .andNot .u64 v 255)), (12, .int .u64 (Go.bits .andNot .u64 v 255))] (BkS w0 g0 g1 cs ds) (by kernel_rfl) (by kernel_rfl) HS.out ?_ ?_
      · exact ⟨RS.StepOK.pure 96 (by kernel_rfl) rfl (fun w => by kernel_rfl),
          RS.StepOK.pure 97 (by kernel_rfl) rfl (fun w => by kernel_rfl),
          RS.StepOK.load 98 (.pointer (some ⟨g1, i, none⟩)) (by kernel_rfl) (by kernel_rfl) rfl (fun w hS => run_indexAddr rfl (by kernel_rfl) (by kernel_rfl) (index_at g1 i hi1 w)),
          RS.StepOK.load 99 (.int .u64 nv) (by kernel_rfl) (by kernel_rfl) rfl (fun w hS => run_load rfl (by kernel_rfl) (load_u64 hS.2.1 HDI.out)),
          RS.StepOK.pure 100 (by kernel_rfl) rfl (fun w => by kernel_rfl),
          RS.StepOK.load 101 (.int .u64 (Go.bits .andNot .u64 v 255)) (by kernel_rfl) (by kernel_rfl) rfl (fun w hS => by rw [← HAB.out]; exact run_bin (a := .int .u64 nv) (b := .int .u64 (Go.bits .and .u64 x 255)) rfl (by kernel_rfl) (by kernel_rfl) (by kernel_rfl) (by kernel_rfl)),
          RS.StepOK.pure 12 (by kernel_rfl) rfl (fun w => by kernel_rfl), trivial⟩
      rintro w9 hs
      clear HS
      have HS := Aside0.mk hs
      clear hs
      (try simp only [RS.sets, List.setIfInBounds_toArray, List.set_cons_zero, List.set_cons_succ])
      go_upto_region 17 with (fail)
      refine RS.wp_drawn (by kernel_rfl) [(109, .int .u64 (Go.bits .andNot .u64 v 255)), (110, .int .i64 (i : Int)), (111, .pointer (some ⟨g0, 0, none⟩)), (112, .pointer (some ⟨g0, i, none⟩)), (113, .int .u64 v), (114, .int .i64 1), (115, .int .i64 8), (116, .int .u64 8), (117, .int .u64 256), (118, .int .u64 255), (119, .int .u64 (Go.bits .andNot .u64 v 255)), (120, .bool true), (121, .bool true), (122, .agg ds), (123, .int .i64 (i : Int)), (124, .int .i64 1), (125, .int .i64 (i : Int)), (126, .pointer (some ⟨g0, 0, none⟩)), (127, .pointer (some ⟨g0, i, none⟩)), (128, .int .u64 v), (129, .agg (ds.setIfInBounds i (.int .u64 v))), (130, .agg ((ds.setIfInBounds i (.int .u64 v)).extract 0 16)), (131, .int .i64 (i : Int)), (132, .int .u64 v), (133, .int .i64 (i : Int)), (134, .pointer (some ⟨g0, 0, none⟩)), (135, .pointer (some ⟨g0, i, none⟩)), (136, .int .u64 v), (137, .bool true), (138, .bool true), (139, .bool true), (140, .bool true), (141, .bool true), (8, .bool true)] (BkS w0 g0 g1 cs ds) (by kernel_rfl) (by kernel_rfl) (HS.out.below (bW_ (Below.refl _ _) 1)) ?_ ?_
      · exact ⟨RS.StepOK.pure 109 (by kernel_rfl) rfl (fun w => by kernel_rfl),
          RS.StepOK.pure 110 (by kernel_rfl) rfl (fun w => by kernel_rfl),
          RS.StepOK.pure 111 (by kernel_rfl) rfl (fun w => by kernel_rfl),
          RS.StepOK.load 112 (.pointer (some ⟨g0, i, none⟩)) (by kernel_rfl) (by kernel_rfl) rfl (fun w hS => run_indexAddr rfl (by kernel_rfl) (by kernel_rfl) (index_at g0 i hi1 w)),
          RS.StepOK.load 113 (.int .u64 v) (by kernel_rfl) (by kernel_rfl) rfl (fun w hS => run_load rfl (by kernel_rfl) (load_u64 hS.1 HV.out)),
          RS.StepOK.pure 114 (by kernel_rfl) rfl (fun w => by kernel_rfl),
          RS.StepOK.pure 115 (by kernel_rfl) rfl (fun w => by kernel_rfl),
          RS.StepOK.pure 116 (by kernel_rfl) rfl (fun w => by kernel_rfl),
          RS.StepOK.pure 117 (by kernel_rfl) rfl (fun w => by kernel_rfl),
          RS.StepOK.pure 118 (by kernel_rfl) rfl (fun w => by kernel_rfl),
          RS.StepOK.pure 119 (by kernel_rfl) rfl (fun w => by kernel_rfl),
          RS.StepOK.load 120 (.bool true) (by kernel_rfl) (by kernel_rfl) rfl (fun w hS => run_bin rfl (by kernel_rfl) (by kernel_rfl) (by kernel_rfl) (eql_u64 (Go.bits .andNot .u64 v 255) w)),
          RS.StepOK.pure 121 (by kernel_rfl) rfl (fun w => by kernel_rfl),
          RS.StepOK.load 122 (.agg ds) (by kernel_rfl) (by kernel_rfl) rfl (fun w hS => run_load rfl (by kernel_rfl) (load_row HDSZ.out hS.2.1)),
          RS.StepOK.pure 123 (by kernel_rfl) rfl (fun w => by kernel_rfl),
          RS.StepOK.pure 124 (by kernel_rfl) rfl (fun w => by kernel_rfl),
          RS.StepOK.pure 125 (by kernel_rfl) rfl (fun w => by kernel_rfl),
          RS.StepOK.pure 126 (by kernel_rfl) rfl (fun w => by kernel_rfl),
          RS.StepOK.load 127 (.pointer (some ⟨g0, i, none⟩)) (by kernel_rfl) (by kernel_rfl) rfl (fun w hS => run_indexAddr rfl (by kernel_rfl) (by kernel_rfl) (index_at g0 i hi1 w)),
          RS.StepOK.load 128 (.int .u64 v) (by kernel_rfl) (by kernel_rfl) rfl (fun w hS => run_load rfl (by kernel_rfl) (load_u64 hS.1 HV.out)),
          RS.StepOK.call 129 7 #[.agg ds, .int .i64 (i : Int), .int .i64 1, .int .u64 v] (.agg (ds.setIfInBounds i (.int .u64 v))) (by kernel_rfl) (by kernel_rfl) rfl (fun w => by kernel_rfl) (fun w hS => hS.met (by have hc := set_calls ds (i : Int) 1 nv 255 v i w HDSZ.out HD1.out HI.out hi1 HDI.out HM.out; rw [HBK.out] at hc; exact hc)),
          RS.StepOK.pure 130 (by kernel_rfl) rfl (fun w => by kernel_rfl),
          RS.StepOK.pure 131 (by kernel_rfl) rfl (fun w => by kernel_rfl),
          RS.StepOK.load 132 (.int .u64 v) (by kernel_rfl) (by kernel_rfl) rfl (fun w hS => run_index rfl (by kernel_rfl) (by kernel_rfl) (index_R hi1 (by rw [Array.getElem?_setIfInBounds, if_pos rfl, if_pos (by rw [HDSZ.out]; omega)]) w)),
          RS.StepOK.pure 133 (by kernel_rfl) rfl (fun w => by kernel_rfl),
          RS.StepOK.pure 134 (by kernel_rfl) rfl (fun w => by kernel_rfl),
          RS.StepOK.load 135 (.pointer (some ⟨g0, i, none⟩)) (by kernel_rfl) (by kernel_rfl) rfl (fun w hS => run_indexAddr rfl (by kernel_rfl) (by kernel_rfl) (index_at g0 i hi1 w)),
          RS.StepOK.load 136 (.int .u64 v) (by kernel_rfl) (by kernel_rfl) rfl (fun w hS => run_load rfl (by kernel_rfl) (load_u64 hS.1 HV.out)),
          RS.StepOK.load 137 (.bool true) (by kernel_rfl) (by kernel_rfl) rfl (fun w hS => run_bin rfl (by kernel_rfl) (by kernel_rfl) (by kernel_rfl) (eql_u64 v w)),
          RS.StepOK.pure 138 (by kernel_rfl) rfl (fun w => by kernel_rfl),
          RS.StepOK.pure 139 (by kernel_rfl) rfl (fun w => by kernel_rfl),
          RS.StepOK.call 140 6 #[] (.bool true) (by kernel_rfl) (by kernel_rfl) rfl (fun w => by kernel_rfl) (fun w hS => hS.met (wakes_calls w hS.2.2.1)),
          RS.StepOK.pure 141 (by kernel_rfl) rfl (fun w => by kernel_rfl),
          RS.StepOK.pure 8 (by kernel_rfl) rfl (fun w => by kernel_rfl), trivial⟩
      rintro w10 hs
      clear HS
      have HS := Aside0.mk hs
      clear hs
      (try simp only [RS.sets, List.setIfInBounds_toArray, List.set_cons_zero, List.set_cons_succ])
      go_wp2_with fail
      go_ret
      exact ⟨rfl, HS.out.2.2.2⟩
set_option maxHeartbeats 8000000 in
set_option maxRecDepth 100000 in
theorem back_2 (cs : Array Value) (i : Nat) (v x ip : Int) (C Z S O P : Bool) (w0 : World) (hsz : cs.size = 278) (h1c : cs.all (·.oneCell') = true) (hi1 : i < 16) (hR : ∀ k, k < 16 → ∃ n, cs[k]? = some (.int .u64 n)) (hv : cs[i]? = some (.int .u64 v)) (hv0 : 0 ≤ v) (hv1 : v < 18446744073709551616) (hx0 : 0 ≤ x) (hx1 : x < 18446744073709551616)
    (hX : ∀ k, k < 256 → ∃ n, (cs.extract 16 272)[k]? = some (.int .u8 n)) (hF : cs.extract 272 277 = #[.bool C, .bool Z, .bool S, .bool O, .bool P]) (hip : cs[277]? = some (.int .u64 ip)) (hT : Tab w0) :
    Calls Tryd.prog 3 #[.agg cs, .int .i64 (i : Int), .int .i64 2, .int .u64 x] w0 fun e w' => e = .returned (.bool true) ∧ Below w0.heap.size w0 w' := by
  have hu29 := Tryd.underlying29
  have hi : Go.bits .and .i64 (i : Int) 15 = i := by rw [and15 _ (by omega) (by omega)]; omega
  have hm : cpu_mask.f 2 = some 65535 := by kernel_rfl
  obtain ⟨nv, hnv⟩ : ∃ k, (Go.bits .or .u64 (Go.bits .andNot .u64 v 65535) (Go.bits .and .u64 x 65535)) = k := ⟨_, rfl⟩
  obtain ⟨ds, hds⟩ : ∃ d, cs.setIfInBounds i (.int .u64 nv) = d := ⟨_, rfl⟩
  have hdsz : ds.size = 278 := by rw [← hds]; simpa using hsz
  have hd1 : ds.all (·.oneCell') = true := by rw [← hds]; exact all_set h1c i rfl
  have hdi : ds[i]? = some (.int .u64 nv) := by rw [← hds, Array.getElem?_setIfInBounds, if_pos rfl, if_pos (by omega)]
  have hdo : ∀ k, k ≠ i → ds[k]? = cs[k]? := fun k hk => by rw [← hds, Array.getElem?_setIfInBounds, if_neg (fun h => hk h.symm)]
  have hdR : ∀ k, k < 16 → ∃ n, ds[k]? = some (.int .u64 n) := fun k hk => by
    by_cases e : k = i
    · subst e; exact ⟨nv, hdi⟩
    · rw [hdo k e]; exact hR k hk
  have hext : ∀ a b, 16 ≤ a → ds.extract a b = cs.extract a b := fun a b ha => by
    apply Array.ext_getElem?
    intro k
    simp only [Array.getElem?_extract, hdsz, hsz]
    split
    · exact hdo _ (by omega)
    · rfl
  have hdF := (hext 272 277 (by omega)).trans hF
  have hdX := hext 16 272 (by omega)
  have hdip : ds[277]? = some (.int .u64 ip) := (hdo 277 (by omega)).trans hip
  have hset : Go.bits .or .u64 (keepF 2 v 65535) (Go.bits .and .u64 x 65535) = nv := by unfold keepF; rw [if_pos (by decide)]; exact hnv
  have hgot : Go.bits .and .u64 nv 65535 = (Go.bits .and .u64 x 65535) := by rw [← hnv]; exact set_got v 65535 x
  have habove : Go.bits .xor .u64 nv (Go.bits .and .u64 x 65535) = (Go.bits .andNot .u64 v 65535) := by rw [← hnv]; exact set_above v 65535 x
  have hback : Go.bits .or .u64 (keepF 2 nv 65535) (Go.bits .and .u64 v 65535) = v := by unfold keepF; rw [if_pos (by decide), ← hnv]; exact set_back v 65535 x hv0 hv1
  have c0 : decide ((i : Int) < 0) = false := decide_eq_false (by omega)
  have c1 : decide (15 < (i : Int)) = false := decide_eq_false (by omega)
  have c2 : decide (15 < i) = false := decide_eq_false (by omega)
  have HR := Aside0.mk hR
  have HV := Aside0.mk hv
  have HM := Aside0.mk hm
  have HI := Aside0.mk hi
  have HSZ := Aside0.mk hsz
  have H1C := Aside0.mk h1c
  have HDSZ := Aside0.mk hdsz
  have HD1 := Aside0.mk hd1
  have HDI := Aside0.mk hdi
  have HDO := Aside0.mk hdo
  have HDR := Aside0.mk hdR
  have HF := Aside0.mk hF
  have HDF := Aside0.mk hdF
  have HX := Aside0.mk hX
  have HDX := Aside0.mk hdX
  have HIP := Aside0.mk hip
  have HDIP := Aside0.mk hdip
  have HSET := Aside0.mk hset
  have HGOT := Aside0.mk hgot
  have HAB := Aside0.mk habove
  have HDS := Aside0.mk hds
  have b0 := World.alloc_heap_new w0 (.cells cs 29)
  have hbl : Below w0.heap.size w0 (w0.alloc (.cells cs 29)) := bX_ (Below.refl _ _) _
  have B0 := Aside0.mk b0
  have HB := Aside0.mk hbl
  have HT := Aside0.mk hT
  have HBK := Aside0.mk hback
  clear hback
  clear b0 hbl hR hv hm hi hsz h1c hdsz hd1 hdi hdo hdR hF hdF hX hdX hip hdip hset hgot habove hds hT hext hnv
  go_enter Tryd.func3, Tryd.ntmps3
  go_upto_region 3 with (fail)
  generalize w0.alloc (.cells cs 29) = w1 at *
  have hin : (Tryd.prog.info? 29).map (·.size) = some cs.size := by rw [HSZ.out]; exact size29
  have HIN := Aside0.mk hin
  clear hin
  go_upto_region 4 with (first | (with_reducible refine wpList_load_row rfl 29 (.tmp 4) rfl w0.heap.size rfl 29 cs (0, 0) _ B0.out hu29 rfl HIN.out ?_) | (go_at_call 7; refine (set_calls cs (i : Int) 2 v 65535 x i _ HSZ.out H1C.out HI.out hi1 HV.out HM.out).mono ?_; rintro e w2 ⟨rfl, hb⟩; rw [HSET.out, HDS.out]; have n0 := Aside0.mk (blk_below B0.out hb); have n1 := Aside0.mk (below_step HB.out hb); clear B0 HB hb; have B0 := n0; have HB := n1; clear n0 n1) | ((with_reducible refine gate_dst (N := 9) rfl ?_); refine box_event rfl (N := 9) rfl (cs := Z29) (t := 29) (by show Sem.run Tryd.prog _ _ = _; simp only [execOp, Sem.run_bind, run_alloc29, Result.andThen_ok, Sem.run_pure]) ?_; intro g1 hg w3 hbox hb; have HL := Aside0.mk (show w0.heap.size < g1 by have := blk_lt B0.out; omega); have n0 := Aside0.mk (blk_below B0.out hb); have n1 := Aside0.mk (below_step HB.out hb); have B1 := Aside0.mk hbox; have HG := Aside0.mk hg; clear B0 HB hb hbox hg; have B0 := n0; have HB := n1; clear n0 n1) | (with_reducible refine wpList_store_row rfl 29 (.tmp 9) (.tmp 40) rfl g1 ds rfl rfl 29 Z29 B1.out (by rw [HDSZ.out]; exact size29) (by rw [HDSZ.out]; kernel_rfl) HD1.out ?_))
  have hkp := keeps_setRow w3 g1 ds
  have hs : BkS w0 w0.heap.size g1 cs ds (w3.setRow g1 ds) := by
    have hB := HB.out.trans (hkp.below HB.out.size (fun k hk h => by have := HL.out; omega))
    exact ⟨hkp.at_ B0.out (by have := HL.out; omega), setRow_heap w3 g1 Z29 ds 29 (0, 0) B1.out, HT.out.below hB, hB⟩
  have HS := Aside0.mk hs
  clear hs hkp B0 B1 HB HIN
  generalize w3.setRow g1 ds = w4 at *
  obtain ⟨g0, hg0⟩ : ∃ g, w0.heap.size = g := ⟨_, rfl⟩
  rw [hg0] at HS
  (try rw [hg0])
  have HG0 := Aside0.mk hg0
  clear hg0 HT
  go_upto_region 6 with (fail)
  refine RS.wp_text [(44, .int .u64 x), (45, .int .i64 2), (46, .int .i64 16), (47, .int .u64 16), (48, .int .u64 65536), (49, .int .u64 65535), (50, .int .u64 (Go.bits .and .u64 x 65535)), (10, .int .u64 (Go.bits .and .u64 x 65535))] (BkS w0 g0 g1 cs ds) (by kernel_rfl) (by kernel_rfl) HS.out ?_ ?_
  · exact ⟨RS.StepOK.pure 44 (by kernel_rfl) rfl (fun w => by kernel_rfl),
      RS.StepOK.pure 45 (by kernel_rfl) rfl (fun w => by kernel_rfl),
      RS.StepOK.pure 46 (by kernel_rfl) rfl (fun w => by kernel_rfl),
      RS.StepOK.pure 47 (by kernel_rfl) rfl (fun w => by kernel_rfl),
      RS.StepOK.pure 48 (by kernel_rfl) rfl (fun w => by kernel_rfl),
      RS.StepOK.pure 49 (by kernel_rfl) rfl (fun w => by kernel_rfl),
      RS.StepOK.pure 50 (by kernel_rfl) rfl (fun w => by kernel_rfl),
      RS.StepOK.pure 10 (by kernel_rfl) rfl (fun w => by kernel_rfl), trivial⟩
  rintro w5 hs
  clear HS
  have HS := Aside0.mk hs
  clear hs
  (try simp only [RS.sets, List.setIfInBounds_toArray, List.set_cons_zero, List.set_cons_succ])
  go_upto_region 7 with (fail)
  refine RS.wp_text [(51, .agg ds), (52, .int .i64 (i : Int)), (53, .int .i64 2), (54, .int .u64 (Go.bits .and .u64 x 65535)), (55, .int .u64 (Go.bits .and .u64 x 65535)), (56, .bool false), (57, .bool false), (58, .pointer (some ⟨g1, 272, none⟩)), (59, .agg #[.bool C, .bool Z, .bool S, .bool O, .bool P]), (60, .pointer (some ⟨g0, 272, none⟩)), (61, .agg #[.bool C, .bool Z, .bool S, .bool O, .bool P]), (62, .bool false), (63, .bool false), (64, .bool false), (65, .pointer (some ⟨g1, 16, none⟩)), (66, .agg (cs.extract 16 272)), (67, .pointer (some ⟨g0, 16, none⟩)), (68, .agg (cs.extract 16 272)), (69, .bool false), (70, .bool false), (71, .bool false), (72, .pointer (some ⟨g1, 277, none⟩)), (73, .int .u64 ip), (74, .pointer (some ⟨g0, 277, none⟩)), (75, .int .u64 ip), (76, .bool false), (77, .bool false)] (BkS w0 g0 g1 cs ds) (by kernel_rfl) (by kernel_rfl) HS.out ?_ ?_
  · exact ⟨RS.StepOK.load 51 (.agg ds) (by kernel_rfl) (by kernel_rfl) rfl (fun w hS => run_load rfl (by kernel_rfl) (load_row HDSZ.out hS.2.1)),
      RS.StepOK.pure 52 (by kernel_rfl) rfl (fun w => by kernel_rfl),
      RS.StepOK.pure 53 (by kernel_rfl) rfl (fun w => by kernel_rfl),
      RS.StepOK.call 54 8 #[.agg ds, .int .i64 (i : Int), .int .i64 2] (.int .u64 (Go.bits .and .u64 x 65535)) (by kernel_rfl) (by kernel_rfl) rfl (fun w => by kernel_rfl) (fun w hS => hS.met (by rw [← HGOT.out]; exact get_calls ds (i : Int) 2 nv 65535 i w HI.out hi1 HDI.out HM.out)),
      RS.StepOK.pure 55 (by kernel_rfl) rfl (fun w => by kernel_rfl),
      RS.StepOK.load 56 (.bool false) (by kernel_rfl) (by kernel_rfl) rfl (fun w hS => run_bin rfl (by kernel_rfl) (by kernel_rfl) (by kernel_rfl) (neq_u64 (Go.bits .and .u64 x 65535) w)),
      RS.StepOK.pure 57 (by kernel_rfl) rfl (fun w => by kernel_rfl),
      RS.StepOK.pure 58 (by kernel_rfl) rfl (fun w => by kernel_rfl),
      RS.StepOK.load 59 (.agg #[.bool C, .bool Z, .bool S, .bool O, .bool P]) (by kernel_rfl) (by kernel_rfl) rfl (fun w hS => run_load rfl (by kernel_rfl) (by rw [← HDF.out]; exact load_F HDSZ.out hS.2.1)),
      RS.StepOK.pure 60 (by kernel_rfl) rfl (fun w => by kernel_rfl),
      RS.StepOK.load 61 (.agg #[.bool C, .bool Z, .bool S, .bool O, .bool P]) (by kernel_rfl) (by kernel_rfl) rfl (fun w hS => run_load rfl (by kernel_rfl) (by rw [← HF.out]; exact load_F HSZ.out hS.1)),
      (by cases C <;> cases Z <;> cases S <;> cases O <;> cases P <;> exact RS.StepOK.pure 62 (by kernel_rfl) rfl (fun w => by kernel_rfl)),
      RS.StepOK.pure 63 (by kernel_rfl) rfl (fun w => by kernel_rfl),
      RS.StepOK.pure 64 (by kernel_rfl) rfl (fun w => by kernel_rfl),
      RS.StepOK.pure 65 (by kernel_rfl) rfl (fun w => by kernel_rfl),
      RS.StepOK.load 66 (.agg (cs.extract 16 272)) (by kernel_rfl) (by kernel_rfl) rfl (fun w hS => run_load rfl (by kernel_rfl) (by rw [← HDX.out]; exact load_X HDSZ.out hS.2.1)),
      RS.StepOK.pure 67 (by kernel_rfl) rfl (fun w => by kernel_rfl),
      RS.StepOK.load 68 (.agg (cs.extract 16 272)) (by kernel_rfl) (by kernel_rfl) rfl (fun w hS => run_load rfl (by kernel_rfl) (load_X HSZ.out hS.1)),
      RS.StepOK.load 69 (.bool false) (by kernel_rfl) (by kernel_rfl) rfl (fun w hS => run_bin rfl (by kernel_rfl) (by kernel_rfl) (by kernel_rfl) (eq_X HX.out w)),
      RS.StepOK.pure 70 (by kernel_rfl) rfl (fun w => by kernel_rfl),
      RS.StepOK.pure 71 (by kernel_rfl) rfl (fun w => by kernel_rfl),
      RS.StepOK.pure 72 (by kernel_rfl) rfl (fun w => by kernel_rfl),
      RS.StepOK.load 73 (.int .u64 ip) (by kernel_rfl) (by kernel_rfl) rfl (fun w hS => run_load rfl (by kernel_rfl) (load_u64 hS.2.1 HDIP.out)),
      RS.StepOK.pure 74 (by kernel_rfl) rfl (fun w => by kernel_rfl),
      RS.StepOK.load 75 (.int .u64 ip) (by kernel_rfl) (by kernel_rfl) rfl (fun w hS => run_load rfl (by kernel_rfl) (load_u64 hS.1 HIP.out)),
      RS.StepOK.load 76 (.bool false) (by kernel_rfl) (by kernel_rfl) rfl (fun w hS => run_bin rfl (by kernel_rfl) (by kernel_rfl) (by kernel_rfl) (neq_u64 ip w)),
      RS.StepOK.pure 77 (by kernel_rfl) rfl (fun w => by kernel_rfl), trivial⟩
  rintro w6 hs
  clear HS
  have HS := Aside0.mk hs
  clear hs
  (try simp only [RS.sets, List.setIfInBounds_toArray, List.set_cons_zero, List.set_cons_succ])
  go_wp2_with fail
  go_loopw [11] (fun u wr => ∃ k : Nat, k ≤ 16 ∧ u = .int .i64 (k : Int) ∧ BkS w0 g0 g1 cs ds wr) (fun u _ => 16 - (RowKit.intOf u).toNat)
  case atStart => exact ⟨0, by omega, rfl, HS.out⟩
  case round =>
    obtain ⟨k, hk, rfl, hs⟩ := hrel
    clear HS
    have HS := Aside0.mk hs
    clear hs
    by_cases hk16 : k < 16
    · by_cases he : k = i
      · subst he
        go_upto_region 12 with (fail)
        refine RS.wp_drawn (by kernel_rfl) [(82, .int .i64 (k : Int)), (83, .int .i64 (k : Int)), (84, .bool false), (85, .bool false), (86, undef), (87, undef), (88, undef), (89, undef), (90, undef), (91, undef), (92, undef), (93, undef), (94, undef), (95, .bool false)] (BkS w0 g0 g1 cs ds) (by kernel_rfl) (by kernel_rfl) (HS.out.below (bW_ (Below.refl _ _) 1)) ?_ ?_
        · exact ⟨RS.StepOK.pure 82 (by kernel_rfl) rfl (fun w => by kernel_rfl),
            RS.StepOK.pure 83 (by kernel_rfl) rfl (fun w => by kernel_rfl),
            RS.StepOK.load 84 (.bool false) (by kernel_rfl) (by kernel_rfl) rfl (fun w hS => run_bin rfl (by kernel_rfl) (by kernel_rfl) (by kernel_rfl) (neq_i64 (k : Int) w)),
            RS.StepOK.pure 85 (by kernel_rfl) rfl (fun w => by kernel_rfl),
            RS.StepOK.off 86 (by kernel_rfl) rfl (by kernel_rfl),
            RS.StepOK.off 87 (by kernel_rfl) rfl (by kernel_rfl),
            RS.StepOK.off 88 (by kernel_rfl) rfl (by kernel_rfl),
            RS.StepOK.off 89 (by kernel_rfl) rfl (by kernel_rfl),
            RS.StepOK.off 90 (by kernel_rfl) rfl (by kernel_rfl),
            RS.StepOK.off 91 (by kernel_rfl) rfl (by kernel_rfl),
            RS.StepOK.off 92 (by kernel_rfl) rfl (by kernel_rfl),
            RS.StepOK.off 93 (by kernel_rfl) rfl (by kernel_rfl),
            RS.StepOK.off 94 (by kernel_rfl) rfl (by kernel_rfl),
            RS.StepOK.pure 95 (by kernel_rfl) rfl (fun w => by kernel_rfl), trivial⟩
        rintro w8 hs
        clear HS
        have HS := Aside0.mk hs
        clear hs
        (try simp only [RS.sets, List.setIfInBounds_toArray, List.set_cons_zero, List.set_cons_succ])
        go_wp2_with fail
        go_roundw
        case rel => exact ⟨k + 1, by omega, by go_num, HS.out⟩
        case measure => simp [RowKit.intOf]; omega
      · have hne : (k : Int) ≠ (i : Int) := by omega
        obtain ⟨u, hu⟩ := HR.out k hk16
        have HU := Aside0.mk hu
        have HUD := Aside0.mk ((HDO.out k he).trans hu)
        clear hu
        go_upto_region 12 with (fail)
        refine RS.wp_drawn (by kernel_rfl) [(82, .int .i64 (k : Int)), (83, .int .i64 (i : Int)), (84, .bool true), (85, .bool true), (86, .int .i64 (k : Int)), (87, .pointer (some ⟨g1, 0, none⟩)), (88, .pointer (some ⟨g1, k, none⟩)), (89, .int .u64 u), (90, .int .i64 (k : Int)), (91, .pointer (some ⟨g0, 0, none⟩)), (92, .pointer (some ⟨g0, k, none⟩)), (93, .int .u64 u), (94, .bool false), (95, .bool false)] (BkS w0 g0 g1 cs ds) (by kernel_rfl) (by kernel_rfl) (HS.out.below (bW_ (Below.refl _ _) 1)) ?_ ?_
        · exact ⟨RS.StepOK.pure 82 (by kernel_rfl) rfl (fun w => by kernel_rfl),
            RS.StepOK.pure 83 (by kernel_rfl) rfl (fun w => by kernel_rfl),
            RS.StepOK.load 84 (.bool true) (by kernel_rfl) (by kernel_rfl) rfl (fun w hS => run_bin rfl (by kernel_rfl) (by kernel_rfl) (by kernel_rfl) (neq_i64' hne w)),
            RS.StepOK.pure 85 (by kernel_rfl) rfl (fun w => by kernel_rfl),
            RS.StepOK.pure 86 (by kernel_rfl) rfl (fun w => by kernel_rfl),
            RS.StepOK.pure 87 (by kernel_rfl) rfl (fun w => by kernel_rfl),
            RS.StepOK.load 88 (.pointer (some ⟨g1, k, none⟩)) (by kernel_rfl) (by kernel_rfl) rfl (fun w hS => run_indexAddr rfl (by kernel_rfl) (by kernel_rfl) (index_at g1 k hk16 w)),
            RS.StepOK.load 89 (.int .u64 u) (by kernel_rfl) (by kernel_rfl) rfl (fun w hS => run_load rfl (by kernel_rfl) (load_u64 hS.2.1 HUD.out)),
            RS.StepOK.pure 90 (by kernel_rfl) rfl (fun w => by kernel_rfl),
            RS.StepOK.pure 91 (by kernel_rfl) rfl (fun w => by kernel_rfl),
            RS.StepOK.load 92 (.pointer (some ⟨g0, k, none⟩)) (by kernel_rfl) (by kernel_rfl) rfl (fun w hS => run_indexAddr rfl (by kernel_rfl) (by kernel_rfl) (index_at g0 k hk16 w)),
            RS.StepOK.load 93 (.int .u64 u) (by kernel_rfl) (by kernel_rfl) rfl (fun w hS => run_load rfl (by kernel_rfl) (load_u64 hS.1 HU.out)),
            RS.StepOK.load 94 (.bool false) (by kernel_rfl) (by kernel_rfl) rfl (fun w hS => run_bin rfl (by kernel_rfl) (by kernel_rfl) (by kernel_rfl) (neq_u64 u w)),
            RS.StepOK.pure 95 (by kernel_rfl) rfl (fun w => by kernel_rfl), trivial⟩
        rintro w8 hs
        clear HS
        have HS := Aside0.mk hs
        clear hs
        (try simp only [RS.sets, List.setIfInBounds_toArray, List.set_cons_zero, List.set_cons_succ])
        go_wp2_with fail
        go_roundw
        case rel => exact ⟨k + 1, by omega, by go_num, HS.out⟩
        case measure => simp [RowKit.intOf]; omega
    · obtain rfl : k = 16 := by omega
      go_upto_region 14 with (fail)
      refine RS.wp_text [(96, .int .i64 (i : Int)), (97, .pointer (some ⟨g1, 0, none⟩)), (98, .pointer (some ⟨g1, i, none⟩)), (99, .int .u64 nv), (100, .int .u64 (Go.bits .and .u64 x 65535)), (101, .int .u64 (Go.bits .andNot .u64 v 65535)), (12, .int .u64 (Go.bits .andNot .u64 v 65535))] (BkS w0 g0 g1 cs ds) (by kernel_rfl) (by kernel_rfl) HS.out ?_ ?_
      · exact ⟨RS.StepOK.pure 96 (by kernel_rfl) rfl (fun w => by kernel_rfl),
          RS.StepOK.pure 97 (by kernel_rfl) rfl (fun w => by kernel_rfl),
          RS.StepOK.load 98 (.pointer (some ⟨g1, i, none⟩)) (by kernel_rfl) (by kernel_rfl) rfl (fun w hS => run_indexAddr rfl (by kernel_rfl) (by kernel_rfl) (index_at g1 i hi1 w)),
          RS.StepOK.load 99 (.int .u64 nv) (by kernel_rfl) (by kernel_rfl) rfl (fun w hS => run_load rfl (by kernel_rfl) (load_u64 hS.2.1 HDI.out)),
          RS.StepOK.pure 100 (by kernel_rfl) rfl (fun w => by kernel_rfl),
          RS.StepOK.load 101 (.int .u64 (Go.bits .andNot .u64 v 65535)) (by kernel_rfl) (by kernel_rfl) rfl (fun w hS => by rw [← HAB.out]; exact run_bin (a := .int .u64 nv) (b := .int .u64 (Go.bits .and .u64 x 65535)) rfl (by kernel_rfl) (by kernel_rfl) (by kernel_rfl) (by kernel_rfl)),
          RS.StepOK.pure 12 (by kernel_rfl) rfl (fun w => by kernel_rfl), trivial⟩
      rintro w9 hs
      clear HS
      have HS := Aside0.mk hs
      clear hs
      (try simp only [RS.sets, List.setIfInBounds_toArray, List.set_cons_zero, List.set_cons_succ])
      go_upto_region 17 with (fail)
      refine RS.wp_drawn (by kernel_rfl) [(109, .int .u64 (Go.bits .andNot .u64 v 65535)), (110, .int .i64 (i : Int)), (111, .pointer (some ⟨g0, 0, none⟩)), (112, .pointer (some ⟨g0, i, none⟩)), (113, .int .u64 v), (114, .int .i64 2), (115, .int .i64 16), (116, .int .u64 16), (117, .int .u64 65536), (118, .int .u64 65535), (119, .int .u64 (Go.bits .andNot .u64 v 65535)), (120, .bool true), (121, .bool true), (122, .agg ds), (123, .int .i64 (i : Int)), (124, .int .i64 2), (125, .int .i64 (i : Int)), (126, .pointer (some ⟨g0, 0, none⟩)), (127, .pointer (some ⟨g0, i, none⟩)), (128, .int .u64 v), (129, .agg (ds.setIfInBounds i (.int .u64 v))), (130, .agg ((ds.setIfInBounds i (.int .u64 v)).extract 0 16)), (131, .int .i64 (i : Int)), (132, .int .u64 v), (133, .int .i64 (i : Int)), (134, .pointer (some ⟨g0, 0, none⟩)), (135, .pointer (some ⟨g0, i, none⟩)), (136, .int .u64 v), (137, .bool true), (138, .bool true), (139, .bool true), (140, .bool true), (141, .bool true), (8, .bool true)] (BkS w0 g0 g1 cs ds) (by kernel_rfl) (by kernel_rfl) (HS.out.below (bW_ (Below.refl _ _) 1)) ?_ ?_
      · exact ⟨RS.StepOK.pure 109 (by kernel_rfl) rfl (fun w => by kernel_rfl),
          RS.StepOK.pure 110 (by kernel_rfl) rfl (fun w => by kernel_rfl),
          RS.StepOK.pure 111 (by kernel_rfl) rfl (fun w => by kernel_rfl),
          RS.StepOK.load 112 (.pointer (some ⟨g0, i, none⟩)) (by kernel_rfl) (by kernel_rfl) rfl (fun w hS => run_indexAddr rfl (by kernel_rfl) (by kernel_rfl) (index_at g0 i hi1 w)),
          RS.StepOK.load 113 (.int .u64 v) (by kernel_rfl) (by kernel_rfl) rfl (fun w hS => run_load rfl (by kernel_rfl) (load_u64 hS.1 HV.out)),
          RS.StepOK.pure 114 (by kernel_rfl) rfl (fun w => by kernel_rfl),
          RS.StepOK.pure 115 (by kernel_rfl) rfl (fun w => by kernel_rfl),
          RS.StepOK.pure 116 (by kernel_rfl) rfl (fun w => by kernel_rfl),
          RS.StepOK.pure 117 (by kernel_rfl) rfl (fun w => by kernel_rfl),
          RS.StepOK.pure 118 (by kernel_rfl) rfl (fun w => by kernel_rfl),
          RS.StepOK.pure 119 (by kernel_rfl) rfl (fun w => by kernel_rfl),
          RS.StepOK.load 120 (.bool true) (by kernel_rfl) (by kernel_rfl) rfl (fun w hS => run_bin rfl (by kernel_rfl) (by kernel_rfl) (by kernel_rfl) (eql_u64 (Go.bits .andNot .u64 v 65535) w)),
          RS.StepOK.pure 121 (by kernel_rfl) rfl (fun w => by kernel_rfl),
          RS.StepOK.load 122 (.agg ds) (by kernel_rfl) (by kernel_rfl) rfl (fun w hS => run_load rfl (by kernel_rfl) (load_row HDSZ.out hS.2.1)),
          RS.StepOK.pure 123 (by kernel_rfl) rfl (fun w => by kernel_rfl),
          RS.StepOK.pure 124 (by kernel_rfl) rfl (fun w => by kernel_rfl),
          RS.StepOK.pure 125 (by kernel_rfl) rfl (fun w => by kernel_rfl),
          RS.StepOK.pure 126 (by kernel_rfl) rfl (fun w => by kernel_rfl),
          RS.StepOK.load 127 (.pointer (some ⟨g0, i, none⟩)) (by kernel_rfl) (by kernel_rfl) rfl (fun w hS => run_indexAddr rfl (by kernel_rfl) (by kernel_rfl) (index_at g0 i hi1 w)),
          RS.StepOK.load 128 (.int .u64 v) (by kernel_rfl) (by kernel_rfl) rfl (fun w hS => run_load rfl (by kernel_rfl) (load_u64 hS.1 HV.out)),
          RS.StepOK.call 129 7 #[.agg ds, .int .i64 (i : Int), .int .i64 2, .int .u64 v] (.agg (ds.setIfInBounds i (.int .u64 v))) (by kernel_rfl) (by kernel_rfl) rfl (fun w => by kernel_rfl) (fun w hS => hS.met (by have hc := set_calls ds (i : Int) 2 nv 65535 v i w HDSZ.out HD1.out HI.out hi1 HDI.out HM.out; rw [HBK.out] at hc; exact hc)),
          RS.StepOK.pure 130 (by kernel_rfl) rfl (fun w => by kernel_rfl),
          RS.StepOK.pure 131 (by kernel_rfl) rfl (fun w => by kernel_rfl),
          RS.StepOK.load 132 (.int .u64 v) (by kernel_rfl) (by kernel_rfl) rfl (fun w hS => run_index rfl (by kernel_rfl) (by kernel_rfl) (index_R hi1 (by rw [Array.getElem?_setIfInBounds, if_pos rfl, if_pos (by rw [HDSZ.out]; omega)]) w)),
          RS.StepOK.pure 133 (by kernel_rfl) rfl (fun w => by kernel_rfl),
          RS.StepOK.pure 134 (by kernel_rfl) rfl (fun w => by kernel_rfl),
          RS.StepOK.load 135 (.pointer (some ⟨g0, i, none⟩)) (by kernel_rfl) (by kernel_rfl) rfl (fun w hS => run_indexAddr rfl (by kernel_rfl) (by kernel_rfl) (index_at g0 i hi1 w)),
          RS.StepOK.load 136 (.int .u64 v) (by kernel_rfl) (by kernel_rfl) rfl (fun w hS => run_load rfl (by kernel_rfl) (load_u64 hS.1 HV.out)),
          RS.StepOK.load 137 (.bool true) (by kernel_rfl) (by kernel_rfl) rfl (fun w hS => run_bin rfl (by kernel_rfl) (by kernel_rfl) (by kernel_rfl) (eql_u64 v w)),
          RS.StepOK.pure 138 (by kernel_rfl) rfl (fun w => by kernel_rfl),
          RS.StepOK.pure 139 (by kernel_rfl) rfl (fun w => by kernel_rfl),
          RS.StepOK.call 140 6 #[] (.bool true) (by kernel_rfl) (by kernel_rfl) rfl (fun w => by kernel_rfl) (fun w hS => hS.met (wakes_calls w hS.2.2.1)),
          RS.StepOK.pure 141 (by kernel_rfl) rfl (fun w => by kernel_rfl),
          RS.StepOK.pure 8 (by kernel_rfl) rfl (fun w => by kernel_rfl), trivial⟩
      rintro w10 hs
      clear HS
      have HS := Aside0.mk hs
      clear hs
      (try simp only [RS.sets, List.setIfInBounds_toArray, List.set_cons_zero, List.set_cons_succ])
      go_wp2_with fail
      go_ret
      exact ⟨rfl, HS.out.2.2.2⟩
end Go.Proofs.YtpmclnlgipphmaaDoor.B
