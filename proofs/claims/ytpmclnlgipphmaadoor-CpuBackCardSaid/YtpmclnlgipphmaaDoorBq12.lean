/- The law CpuBack, walked along its one true way, for each width. The law CpuBack: its function tells true. The row's condition on the listed table of functions, as facts of cells; and what flags that are handed in hold. What a CPU that is handed in holds; the law CpuBack: its function tells true. The law sundiallaw14_CpuBack answers true for every input that the row admits, and the input reads as it did. Conditions: those of the given row alone. (Printed by rowgen.py out of the walk and the plain law.) -/
import Derived.Test.YtpmclnlgipphmaaDoorBq10
import Derived.Test.YtpmclnlgipphmaaDoorBq11
import Derived.Test.YtpmclnlgipphmaaDoorBq9
import Derived.Test.YtpmclnlgipphmaaDoorRows
import Derived.ProofKit
import Derived.LaidMore
import Derived.OpenShut
import Derived.ChangeSame
import Derived.Stop.Joined
import Derived.Test.YtpmclnlgipphmaaDoorTie
import Derived.Test.YtpmclnlgipphmaaDoorCards
import Derived.Lay
import Derived.LaidOnce
import Derived.SevenTiedAt
import Derived.WalkKit
import Derived.ShutString
import Derived.ChangeOld
import Derived.Below
import Derived.SizedLaws
namespace Go.Proofs.YtpmclnlgipphmaaDoor.B
open Go.RowKit Go.Proofs.YtpmclnlgipphmaaDoorW.PrintWords Go.Proofs.YtpmclnlgipphmaaDoorW.PrintMore Go.RF
set_option linter.unusedVariables false
set_option linter.unusedSimpArgs false
set_option maxHeartbeats 8000000 in
set_option maxRecDepth 100000 in
theorem back_4 (cs : Array Value) (i : Nat) (v x ip : Int) (C Z S O P : Bool) (w0 : World) (hsz : cs.size = 278) (h1c : cs.all (·.oneCell') = true) (hi1 : i < 16) (hR : ∀ k, k < 16 → ∃ n, cs[k]? = some (.int .u64 n)) (hv : cs[i]? = some (.int .u64 v)) (hv0 : 0 ≤ v) (hv1 : v < 18446744073709551616) (hx0 : 0 ≤ x) (hx1 : x < 18446744073709551616)
    (hX : ∀ k, k < 256 → ∃ n, (cs.extract 16 272)[k]? = some (.int .u8 n)) (hF : cs.extract 272 277 = #[.bool C, .bool Z, .bool S, .bool O, .bool P]) (hip : cs[277]? = some (.int .u64 ip)) (hT : Tab w0) :
    Calls Tryd.prog 3 #[.agg cs, .int .i64 (i : Int), .int .i64 4, .int .u64 x] w0 fun e w' => e = .returned (.bool true) ∧ Below w0.heap.size w0 w' := by
  have hu29 := Tryd.underlying29
  have hi : Go.bits .and .i64 (i : Int) 15 = i := by rw [and15 _ (by omega) (by omega)]; omega
  have hm : cpu_mask.f 4 = some 4294967295 := by kernel_rfl
  obtain ⟨nv, hnv⟩ : ∃ k, (Go.bits .or .u64 0 (Go.bits .and .u64 x 4294967295)) = k := ⟨_, rfl⟩
  obtain ⟨ds, hds⟩ : ∃ d, cs.setIfInBounds i (.int .u64 nv) = d := ⟨_, rfl⟩
  have hdsz : ds.size = 278 := by rw [← hds]; simpa using hsz
  have hd1 : ds.all (·.oneCell') = true := by rw [← hds]; exact all_set h1c i rfl
  have hdi : ds[i]? = some (.int .u64 nv) := by rw [← hds, Array.getElem?_setIfInBounds, if_pos rfl, if_pos (by omega)]
  have hdo : ∀ k, k ≠ i → ds[k]? = cs[k]? := fun k hk => by rw [← hds, Array.getElem?_setIfInBounds, if_neg (fun h => hk h.symm)]
  have hdR : ∀ k, k < 16 → ∃ n, ds[k]? = some (.int .u64 n) := fun k hk => by
    by_cases e : k = i
    · subst e; exact ⟨nv, hdi⟩
    · rw [hdo k e]; exact hR k hk
  have hext : ∀ a b, 16 ≤ a → ds.extract a b = cs.extract a b := fun a b ha => by
    apply Array.ext_getElem?
    intro k
    simp only [Array.getElem?_extract, hdsz, hsz]
    split
    · exact hdo _ (by omega)
    · rfl
  have hdF := (hext 272 277 (by omega)).trans hF
  have hdX := hext 16 272 (by omega)
  have hdip : ds[277]? = some (.int .u64 ip) := (hdo 277 (by omega)).trans hip
  have hset : Go.bits .or .u64 (keepF 4 v 4294967295) (Go.bits .and .u64 x 4294967295) = nv := by unfold keepF; rw [if_neg (by decide)]; exact hnv
  have hgot : Go.bits .and .u64 nv 4294967295 = (Go.bits .and .u64 x 4294967295) := by rw [← hnv]; exact set_got0 4294967295 x
  have habove : Go.bits .xor .u64 nv (Go.bits .and .u64 x 4294967295) = 0 := by rw [← hnv]; exact set_above0 4294967295 x
  have c0 : decide ((i : Int) < 0) = false := decide_eq_false (by omega)
  have c1 : decide (15 < (i : Int)) = false := decide_eq_false (by omega)
  have c2 : decide (15 < i) = false := decide_eq_false (by omega)
  have HR := Aside0.mk hR
  have HV := Aside0.mk hv
  have HM := Aside0.mk hm
  have HI := Aside0.mk hi
  have HSZ := Aside0.mk hsz
  have H1C := Aside0.mk h1c
  have HDSZ := Aside0.mk hdsz
  have HD1 := Aside0.mk hd1
  have HDI := Aside0.mk hdi
  have HDO := Aside0.mk hdo
  have HDR := Aside0.mk hdR
  have HF := Aside0.mk hF
  have HDF := Aside0.mk hdF
  have HX := Aside0.mk hX
  have HDX := Aside0.mk hdX
  have HIP := Aside0.mk hip
  have HDIP := Aside0.mk hdip
  have HSET := Aside0.mk hset
  have HGOT := Aside0.mk hgot
  have HAB := Aside0.mk habove
  have HDS := Aside0.mk hds
  have b0 := World.alloc_heap_new w0 (.cells cs 29)
  have hbl : Below w0.heap.size w0 (w0.alloc (.cells cs 29)) := bX_ (Below.refl _ _) _
  have B0 := Aside0.mk b0
  have HB := Aside0.mk hbl
  have HT := Aside0.mk hT
  clear b0 hbl hR hv hm hi hsz h1c hdsz hd1 hdi hdo hdR hF hdF hX hdX hip hdip hset hgot habove hds hT hext hnv
  go_enter Tryd.func3, Tryd.ntmps3
  go_upto_region 3 with (fail)
  generalize w0.alloc (.cells cs 29) = w1 at *
  have hin : (Tryd.prog.info? 29).map (·.size) = some cs.size := by rw [HSZ.out]; exact size29
  have HIN := Aside0.mk hin
  clear hin
  go_upto_region 4 with (first | (with_reducible refine wpList_load_row rfl 29 (.tmp 4) rfl w0.heap.size rfl 29 cs (0, 0) _ B0.out hu29 rfl HIN.out ?_) | (go_at_call 7; refine (set_calls cs (i : Int) 4 v 4294967295 x i _ HSZ.out H1C.out HI.out hi1 HV.out HM.out).mono ?_; rintro e w2 ⟨rfl, hb⟩; rw [HSET.out, HDS.out]; have n0 := Aside0.mk (blk_below B0.out hb); have n1 := Aside0.mk (below_step HB.out hb); clear B0 HB hb; have B0 := n0; have HB := n1; clear n0 n1) | ((with_reducible refine gate_dst (N := 9) rfl ?_); refine box_event rfl (N := 9) rfl (cs := Z29) (t := 29) (by show Sem.run Tryd.prog _ _ = _; simp only [execOp, Sem.run_bind, run_alloc29, Result.andThen_ok, Sem.run_pure]) ?_; intro g1 hg w3 hbox hb; have HL := Aside0.mk (show w0.heap.size < g1 by have := blk_lt B0.out; omega); have n0 := Aside0.mk (blk_below B0.out hb); have n1 := Aside0.mk (below_step HB.out hb); have B1 := Aside0.mk hbox; have HG := Aside0.mk hg; clear B0 HB hb hbox hg; have B0 := n0; have HB := n1; clear n0 n1) | (with_reducible refine wpList_store_row rfl 29 (.tmp 9) (.tmp 40) rfl g1 ds rfl rfl 29 Z29 B1.out (by rw [HDSZ.out]; exact size29) (by rw [HDSZ.out]; kernel_rfl) HD1.out ?_))
  have hkp := keeps_setRow w3 g1 ds
  have hs : BkS w0 w0.heap.size g1 cs ds (w3.setRow g1 ds) := by
    have hB := HB.out.trans (hkp.below HB.out.size (fun k hk h => by have := HL.out; omega))
    exact ⟨hkp.at_ B0.out (by have := HL.out; omega), setRow_heap w3 g1 Z29 ds 29 (0, 0) B1.out, HT.out.below hB, hB⟩
  have HS := Aside0.mk hs
  clear hs hkp B0 B1 HB HIN
  generalize w3.setRow g1 ds = w4 at *
  obtain ⟨g0, hg0⟩ : ∃ g, w0.heap.size = g := ⟨_, rfl⟩
  rw [hg0] at HS
  (try rw [hg0])
  have HG0 := Aside0.mk hg0
  clear hg0 HT
  go_upto_region 6 with (fail)
  refine RS.wp_text [(44, .int .u64 x), (45, .int .i64 4), (46, .int .i64 32), (47, .int .u64 32), (48, .int .u64 4294967296), (49, .int .u64 4294967295), (50, .int .u64 (Go.bits .and .u64 x 4294967295)), (10, .int .u64 (Go.bits .and .u64 x 4294967295))] (BkS w0 g0 g1 cs ds) (by kernel_rfl) (by kernel_rfl) HS.out ?_ ?_
  · exact ⟨RS.StepOK.pure 44 (by kernel_rfl) rfl (fun w => by kernel_rfl),
      RS.StepOK.pure 45 (by kernel_rfl) rfl (fun w => by kernel_rfl),
      RS.StepOK.pure 46 (by kernel_rfl) rfl (fun w => by kernel_rfl),
      RS.StepOK.pure 47 (by kernel_rfl) rfl (fun w => by kernel_rfl),
      RS.StepOK.pure 48 (by kernel_rfl) rfl (fun w => by kernel_rfl),
      RS.StepOK.pure 49 (by kernel_rfl) rfl (fun w => by kernel_rfl),
      RS.StepOK.pure 50 (by kernel_rfl) rfl (fun w => by kernel_rfl),
      RS.StepOK.pure 10 (by kernel_rfl) rfl (fun w => by kernel_rfl), trivial⟩
  rintro w5 hs
  clear HS
  have HS := Aside0.mk hs
  clear hs
  (try simp only [RS.sets, List.setIfInBounds_toArray, List.set_cons_zero, List.set_cons_succ])
  go_upto_region 7 with (fail)
  refine RS.wp_text [(51, .agg ds), (52, .int .i64 (i : Int)), (53, .int .i64 4), (54, .int .u64 (Go.bits .and .u64 x 4294967295)), (55, .int .u64 (Go.bits .and .u64 x 4294967295)), (56, .bool false), (57, .bool false), (58, .pointer (some ⟨g1, 272, none⟩)), (59, .agg #[.bool C, .bool Z, .bool S, .bool O, .bool P]), (60, .pointer (some ⟨g0, 272, none⟩)), (61, .agg #[.bool C, .bool Z, .bool S, .bool O, .bool P]), (62, .bool false), (63, .bool false), (64, .bool false), (65, .pointer (some ⟨g1, 16, none⟩)), (66, .agg (cs.extract 16 272)), (67, .pointer (some ⟨g0, 16, none⟩)), (68, .agg (cs.extract 16 272)), (69, .bool false), (70, .bool false), (71, .bool false), (72, .pointer (some ⟨g1, 277, none⟩)), (73, .int .u64 ip), (74, .pointer (some ⟨g0, 277, none⟩)), (75, .int .u64 ip), (76, .bool false), (77, .bool false)] (BkS w0 g0 g1 cs ds) (by kernel_rfl) (by kernel_rfl) HS.out ?_ ?_
  · exact ⟨RS.StepOK.load 51 (.agg ds) (by kernel_rfl) (by kernel_rfl) rfl (fun w hS => run_load rfl (by kernel_rfl) (load_row HDSZ.out hS.2.1)),
      RS.StepOK.pure 52 (by kernel_rfl) rfl (fun w => by kernel_rfl),
      RS.StepOK.pure 53 (by kernel_rfl) rfl (fun w => by kernel_rfl),
      RS.StepOK.call 54 8 #[.agg ds, .int .i64 (i : Int), .int .i64 4] (.int .u64 (Go.bits .and .u64 x 4294967295)) (by kernel_rfl) (by kernel_rfl) rfl (fun w => by kernel_rfl) (fun w hS => hS.met (by rw [← HGOT.out]; exact get_calls ds (i : Int) 4 nv 4294967295 i w HI.out hi1 HDI.out HM.out)),
      RS.StepOK.pure 55 (by kernel_rfl) rfl (fun w => by kernel_rfl),
      RS.StepOK.load 56 (.bool false) (by kernel_rfl) (by kernel_rfl) rfl (fun w hS => run_bin rfl (by kernel_rfl) (by kernel_rfl) (by kernel_rfl) (neq_u64 (Go.bits .and .u64 x 4294967295) w)),
      RS.StepOK.pure 57 (by kernel_rfl) rfl (fun w => by kernel_rfl),
      RS.StepOK.pure 58 (by kernel_rfl) rfl (fun w => by kernel_rfl),
      RS.StepOK.load 59 (.agg #[.bool C, .bool Z, .bool S, .bool O, .bool P]) (by kernel_rfl) (by kernel_rfl) rfl (fun w hS => run_load rfl (by kernel_rfl) (by rw [← HDF.out]; exact load_F HDSZ.out hS.2.1)),
      RS.StepOK.pure 60 (by kernel_rfl) rfl (fun w => by kernel_rfl),
      RS.StepOK.load 61 (.agg #[.bool C, .bool Z, .bool S, .bool O, .bool P]) (by kernel_rfl) (by kernel_rfl) rfl (fun w hS => run_load rfl (by kernel_rfl) (by rw [← HF.out]; exact load_F HSZ.out hS.1)),
      (by cases C <;> cases Z <;> cases S <;> cases O <;> cases P <;> exact RS.StepOK.pure 62 (by kernel_rfl) rfl (fun w => by kernel_rfl)),
      RS.StepOK.pure 63 (by kernel_rfl) rfl (fun w => by kernel_rfl),
      RS.StepOK.pure 64 (by kernel_rfl) rfl (fun w => by kernel_rfl),
      RS.StepOK.pure 65 (by kernel_rfl) rfl (fun w => by kernel_rfl),
      RS.StepOK.load 66 (.agg (cs.extract 16 272)) (by kernel_rfl) (by kernel_rfl) rfl (fun w hS => run_load rfl (by kernel_rfl) (by rw [← HDX.out]; exact load_X HDSZ.out hS.2.1)),
      RS.StepOK.pure 67 (by kernel_rfl) rfl (fun w => by kernel_rfl),
      RS.StepOK.load 68 (.agg (cs.extract 16 272)) (by kernel_rfl) (by kernel_rfl) rfl (fun w hS => run_load rfl (by kernel_rfl) (load_X HSZ.out hS.1)),
      RS.StepOK.load 69 (.bool false) (by kernel_rfl) (by kernel_rfl) rfl (fun w hS => run_bin rfl (by kernel_rfl) (by kernel_rfl) (by kernel_rfl) (eq_X HX.out w)),
      RS.StepOK.pure 70 (by kernel_rfl) rfl (fun w => by kernel_rfl),
      RS.StepOK.pure 71 (by kernel_rfl) rfl (fun w => by kernel_rfl),
      RS.StepOK.pure 72 (by kernel_rfl) rfl (fun w => by kernel_rfl),
      RS.StepOK.load 73 (.int .u64 ip) (by kernel_rfl) (by kernel_rfl) rfl (fun w hS => run_load rfl (by kernel_rfl) (load_u64 hS.2.1 HDIP.out)),
      RS.StepOK.pure 74 (by kernel_rfl) rfl (fun w => by kernel_rfl),
      RS.StepOK.load 75 (.int .u64 ip) (by kernel_rfl) (by kernel_rfl) rfl (fun w hS => run_load rfl (by kernel_rfl) (load_u64 hS.1 HIP.out)),
      RS.StepOK.load 76 (.bool false) (by kernel_rfl) (by kernel_rfl) rfl (fun w hS => run_bin rfl (by kernel_rfl) (by kernel_rfl) (by kernel_rfl) (neq_u64 ip w)),
      RS.StepOK.pure 77 (by kernel_rfl) rfl (fun w => by kernel_rfl), trivial⟩
  rintro w6 hs
  clear HS
  have HS := Aside0.mk hs
  clear hs
  (try simp only [RS.sets, List.setIfInBounds_toArray, List.set_cons_zero, List.set_cons_succ])
  go_wp2_with fail
  go_loopw [11] (fun u wr => ∃ k : Nat, k ≤ 16 ∧ u = .int .i64 (k : Int) ∧ BkS w0 g0 g1 cs ds wr) (fun u _ => 16 - (RowKit.intOf u).toNat)
  case atStart => exact ⟨0, by omega, rfl, HS.out⟩
  case round =>
    obtain ⟨k, hk, rfl, hs⟩ := hrel
    clear HS
    have HS := Aside0.mk hs
    clear hs
    by_cases hk16 : k < 16
    · by_cases he : k = i
      · subst he
        go_upto_region 12 with (fail)
        refine RS.wp_drawn (by kernel_rfl) [(82, .int .i64 (k : Int)), (83, .int .i64 (k : Int)), (84, .bool false), (85, .bool false), (86, undef), (87, undef), (88, undef), (89, undef), (90, undef), (91, undef), (92, undef), (93, undef), (94, undef), (95, .bool false)] (BkS w0 g0 g1 cs ds) (by kernel_rfl) (by kernel_rfl) (HS.out.below (bW_ (Below.refl _ _) 1)) ?_ ?_
        · exact ⟨RS.StepOK.pure 82 (by kernel_rfl) rfl (fun w => by kernel_rfl),
            RS.StepOK.pure 83 (by kernel_rfl) rfl (fun w => by kernel_rfl),
            RS.StepOK.load 84 (.bool false) (by kernel_rfl) (by kernel_rfl) rfl (fun w hS => run_bin rfl (by kernel_rfl) (by kernel_rfl) (by kernel_rfl) (neq_i64 (k : Int) w)),
            RS.StepOK.pure 85 (by kernel_rfl) rfl (fun w => by kernel_rfl),
            RS.StepOK.off 86 (by kernel_rfl) rfl (by kernel_rfl),
            RS.StepOK.off 87 (by kernel_rfl) rfl (by kernel_rfl),
            RS.StepOK.off 88 (by kernel_rfl) rfl (by kernel_rfl),
            RS.StepOK.off 89 (by kernel_rfl) rfl (by kernel_rfl),
            RS.StepOK.off 90 (by kernel_rfl) rfl (by kernel_rfl),
            RS.StepOK.off 91 (by kernel_rfl) rfl (by kernel_rfl),
            RS.StepOK.off 92 (by kernel_rfl) rfl (by kernel_rfl),
            RS.StepOK.off 93 (by kernel_rfl) rfl (by kernel_rfl),
            RS.StepOK.off 94 (by kernel_rfl) rfl (by kernel_rfl),
            RS.StepOK.pure 95 (by kernel_rfl) rfl (fun w => by kernel_rfl), trivial⟩
        rintro w8 hs
        clear HS
        have HS := Aside0.mk hs
        clear hs
        (try simp only [RS.sets, List.setIfInBounds_toArray, List.set_cons_zero, List.set_cons_succ])
        go_wp2_with fail
        go_roundw
        case rel => exact ⟨k + 1, by omega, by go_num, HS.out⟩
        case measure => simp [RowKit.intOf]; omega
      · have hne : (k : Int) ≠ (i : Int) := by omega
        obtain ⟨u, hu⟩ := HR.out k hk16
        have HU := Aside0.mk hu
        have HUD := Aside0.mk ((HDO.out k he).trans hu)
        clear hu
        go_upto_region 12 with (fail)
        refine RS.wp_drawn (by kernel_rfl) [(82, .int .i64 (k : Int)), (83, .int .i64 (i : Int)), (84, .bool true), (85, .bool true), (86, .int .i64 (k : Int)), (87, .pointer (some ⟨g1, 0, none⟩)), (88, .pointer (some ⟨g1, k, none⟩)), (89, .int .u64 u), (90, .int .i64 (k : Int)), (91, .pointer (some ⟨g0, 0, none⟩)), (92, .pointer (some ⟨g0, k, none⟩)), (93, .int .u64 u), (94, .bool false), (95, .bool false)] (BkS w0 g0 g1 cs ds) (by kernel_rfl) (by kernel_rfl) (HS.out.below (bW_ (Below.refl _ _) 1)) ?_ ?_
        · exact ⟨RS.StepOK.pure 82 (by kernel_rfl) rfl (fun w => by kernel_rfl),
            RS.StepOK.pure 83 (by kernel_rfl) rfl (fun w => by kernel_rfl),
            RS.StepOK.load 84 (.bool true) (by kernel_rfl) (by kernel_rfl) rfl (fun w hS => run_bin rfl (by kernel_rfl) (by kernel_rfl) (by kernel_rfl) (neq_i64' hne w)),
            RS.StepOK.pure 85 (by kernel_rfl) rfl (fun w => by kernel_rfl),
            RS.StepOK.pure 86 (by kernel_rfl) rfl (fun w => by kernel_rfl),
            RS.StepOK.pure 87 (by kernel_rfl) rfl (fun w => by kernel_rfl),
            RS.StepOK.load 88 (.pointer (some ⟨g1, k, none⟩)) (by kernel_rfl) (by kernel_rfl) rfl (fun w hS => run_indexAddr rfl (by kernel_rfl) (by kernel_rfl) (index_at g1 k hk16 w)),
            RS.StepOK.load 89 (.int .u64 u) (by kernel_rfl) (by kernel_rfl) rfl (fun w hS => run_load rfl (by kernel_rfl) (load_u64 hS.2.1 HUD.out)),
            RS.StepOK.pure 90 (by kernel_rfl) rfl (fun w => by kernel_rfl),
            RS.StepOK.pure 91 (by kernel_rfl) rfl (fun w => by kernel_rfl),
            RS.StepOK.load 92 (.pointer (some ⟨g0, k, none⟩)) (by kernel_rfl) (by kernel_rfl) rfl (fun w hS => run_indexAddr rfl (by kernel_rfl) (by kernel_rfl) (index_at g0 k hk16 w)),
            RS.StepOK.load 93 (.int .u64 u) (by kernel_rfl) (by kernel_rfl) rfl (fun w hS => run_load rfl (by kernel_rfl) (load_u64 hS.1 HU.out)),
            RS.StepOK.load 94 (.bool false) (by kernel_rfl) (by kernel_rfl) rfl (fun w hS => run_bin rfl (by kernel_rfl) (by kernel_rfl) (by kernel_rfl) (neq_u64 u w)),
            RS.StepOK.pure 95 (by kernel_rfl) rfl (fun w => by kernel_rfl), trivial⟩
        rintro w8 hs
        clear HS
        have HS := Aside0.mk hs
        clear hs
        (try simp only [RS.sets, List.setIfInBounds_toArray, List.set_cons_zero, List.set_cons_succ])
        go_wp2_with fail
        go_roundw
        case rel => exact ⟨k + 1, by omega, by go_num, HS.out⟩
        case measure => simp [RowKit.intOf]; omega
    · obtain rfl : k = 16 := by omega
      go_upto_region 14 with (fail)
      refine RS.wp_text [(96, .int .i64 (i : Int)), (97, .pointer (some ⟨g1, 0, none⟩)), (98, .pointer (some ⟨g1, i, none⟩)), (99, .int .u64 nv), (100, .int .u64 (Go.bits .and .u64 x 4294967295)), (101, .int .u64 0), (12, .int .u64 0)] (BkS w0 g0 g1 cs ds) (by kernel_rfl) (by kernel_rfl) HS.out ?_ ?_
      · exact ⟨RS.StepOK.pure 96 (by kernel_rfl) rfl (fun w => by kernel_rfl),
          RS.StepOK.pure 97 (by kernel_rfl) rfl (fun w => by kernel_rfl),
          RS.StepOK.load 98 (.pointer (some ⟨g1, i, none⟩)) (by kernel_rfl) (by kernel_rfl) rfl (fun w hS => run_indexAddr rfl (by kernel_rfl) (by kernel_rfl) (index_at g1 i hi1 w)),
          RS.StepOK.load 99 (.int .u64 nv) (by kernel_rfl) (by kernel_rfl) rfl (fun w hS => run_load rfl (by kernel_rfl) (load_u64 hS.2.1 HDI.out)),
          RS.StepOK.pure 100 (by kernel_rfl) rfl (fun w => by kernel_rfl),
          RS.StepOK.load 101 (.int .u64 0) (by kernel_rfl) (by kernel_rfl) rfl (fun w hS => by rw [← HAB.out]; exact run_bin (a := .int .u64 nv) (b := .int .u64 (Go.bits .and .u64 x 4294967295)) rfl (by kernel_rfl) (by kernel_rfl) (by kernel_rfl) (by kernel_rfl)),
          RS.StepOK.pure 12 (by kernel_rfl) rfl (fun w => by kernel_rfl), trivial⟩
      rintro w9 hs
      clear HS
      have HS := Aside0.mk hs
      clear hs
      (try simp only [RS.sets, List.setIfInBounds_toArray, List.set_cons_zero, List.set_cons_succ])
      go_upto_region 16 with (fail)
      refine RS.wp_text [(104, .int .u64 0), (105, .bool true), (106, .bool true), (107, .bool true), (108, .bool true), (8, .bool true)] (BkS w0 g0 g1 cs ds) (by kernel_rfl) (by kernel_rfl) HS.out ?_ ?_
      · exact ⟨RS.StepOK.pure 104 (by kernel_rfl) rfl (fun w => by kernel_rfl),
          RS.StepOK.pure 105 (by kernel_rfl) rfl (fun w => by kernel_rfl),
          RS.StepOK.pure 106 (by kernel_rfl) rfl (fun w => by kernel_rfl),
          RS.StepOK.call 107 6 #[] (.bool true) (by kernel_rfl) (by kernel_rfl) rfl (fun w => by kernel_rfl) (fun w hS => hS.met (wakes_calls w hS.2.2.1)),
          RS.StepOK.pure 108 (by kernel_rfl) rfl (fun w => by kernel_rfl),
          RS.StepOK.pure 8 (by kernel_rfl) rfl (fun w => by kernel_rfl), trivial⟩
      rintro w10 hs
      clear HS
      have HS := Aside0.mk hs
      clear hs
      (try simp only [RS.sets, List.setIfInBounds_toArray, List.set_cons_zero, List.set_cons_succ])
      go_wp2_with fail
      go_ret
      exact ⟨rfl, HS.out.2.2.2⟩
set_option maxHeartbeats 8000000 in
set_option maxRecDepth 100000 in
theorem back_8 (cs : Array Value) (i : Nat) (v x ip : Int) (C Z S O P : Bool) (w0 : World) (hsz : cs.size = 278) (h1c : cs.all (·.oneCell') = true) (hi1 : i < 16) (hR : ∀ k, k < 16 → ∃ n, cs[k]? = some (.int .u64 n)) (hv : cs[i]? = some (.int .u64 v)) (hv0 : 0 ≤ v) (hv1 : v < 18446744073709551616) (hx0 : 0 ≤ x) (hx1 : x < 18446744073709551616)
    (hX : ∀ k, k < 256 → ∃ n, (cs.extract 16 272)[k]? = some (.int .u8 n)) (hF : cs.extract 272 277 = #[.bool C, .bool Z, .bool S, .bool O, .bool P]) (hip : cs[277]? = some (.int .u64 ip)) (hT : Tab w0) :
    Calls Tryd.prog 3 #[.agg cs, .int .i64 (i : Int), .int .i64 8, .int .u64 x] w0 fun e w' => e = .returned (.bool true) ∧ Below w0.heap.size w0 w' := by
  have hu29 := Tryd.underlying29
  have hi : Go.bits .and .i64 (i : Int) 15 = i := by rw [and15 _ (by omega) (by omega)]; omega
  have hm : cpu_mask.f 8 = some 18446744073709551615 := by kernel_rfl
  obtain ⟨nv, hnv⟩ : ∃ k, (Go.bits .or .u64 0 (Go.bits .and .u64 x 18446744073709551615)) = k := ⟨_, rfl⟩
  obtain ⟨ds, hds⟩ : ∃ d, cs.setIfInBounds i (.int .u64 nv) = d := ⟨_, rfl⟩
  have hdsz : ds.size = 278 := by rw [← hds]; simpa using hsz
  have hd1 : ds.all (·.oneCell') = true := by rw [← hds]; exact all_set h1c i rfl
  have hdi : ds[i]? = some (.int .u64 nv) := by rw [← hds, Array.getElem?_setIfInBounds, if_pos rfl, if_pos (by omega)]
  have hdo : ∀ k, k ≠ i → ds[k]? = cs[k]? := fun k hk => by rw [← hds, Array.getElem?_setIfInBounds, if_neg (fun h => hk h.symm)]
  have hdR : ∀ k, k < 16 → ∃ n, ds[k]? = some (.int .u64 n) := fun k hk => by
    by_cases e : k = i
    · subst e; exact ⟨nv, hdi⟩
    · rw [hdo k e]; exact hR k hk
  have hext : ∀ a b, 16 ≤ a → ds.extract a b = cs.extract a b := fun a b ha => by
    apply Array.ext_getElem?
    intro k
    simp only [Array.getElem?_extract, hdsz, hsz]
    split
    · exact hdo _ (by omega)
    · rfl
  have hdF := (hext 272 277 (by omega)).trans hF
  have hdX := hext 16 272 (by omega)
  have hdip : ds[277]? = some (.int .u64 ip) := (hdo 277 (by omega)).trans hip
  have hset : Go.bits .or .u64 (keepF 8 v 18446744073709551615) (Go.bits .and .u64 x 18446744073709551615) = nv := by unfold keepF; rw [if_neg (by decide)]; exact hnv
  have hgot : Go.bits .and .u64 nv 18446744073709551615 = x := by rw [← hnv, set_got0, and_all x hx0 hx1]
  have habove : Go.bits .xor .u64 nv x = 0 := by have := set_above0 18446744073709551615 x; rw [and_all x hx0 hx1] at this; rw [← hnv, and_all x hx0 hx1]; exact this
  have c0 : decide ((i : Int) < 0) = false := decide_eq_false (by omega)
  have c1 : decide (15 < (i : Int)) = false := decide_eq_false (by omega)
  have c2 : decide (15 < i) = false := decide_eq_false (by omega)
  have HR := Aside0.mk hR
  have HV := Aside0.mk hv
  have HM := Aside0.mk hm
  have HI := Aside0.mk hi
  have HSZ := Aside0.mk hsz
  have H1C := Aside0.mk h1c
  have HDSZ := Aside0.mk hdsz
  have HD1 := Aside0.mk hd1
  have HDI := Aside0.mk hdi
  have HDO := Aside0.mk hdo
  have HDR := Aside0.mk hdR
  have HF := Aside0.mk hF
  have HDF := Aside0.mk hdF
  have HX := Aside0.mk hX
  have HDX := Aside0.mk hdX
  have HIP := Aside0.mk hip
  have HDIP := Aside0.mk hdip
  have HSET := Aside0.mk hset
  have HGOT := Aside0.mk hgot
  have HAB := Aside0.mk habove
  have HDS := Aside0.mk hds
  have b0 := World.alloc_heap_new w0 (.cells cs 29)
  have hbl : Below w0.heap.size w0 (w0.alloc (.cells cs 29)) := bX_ (Below.refl _ _) _
  have B0 := Aside0.mk b0
  have HB := Aside0.mk hbl
  have HT := Aside0.mk hT
  clear b0 hbl hR hv hm hi hsz h1c hdsz hd1 hdi hdo hdR hF hdF hX hdX hip hdip hset hgot habove hds hT hext hnv
  go_enter Tryd.func3, Tryd.ntmps3
  go_upto_region 3 with (fail)
  generalize w0.alloc (.cells cs 29) = w1 at *
  have hin : (Tryd.prog.info? 29).map (·.size) = some cs.size := by rw [HSZ.out]; exact size29
  have HIN := Aside0.mk hin
  clear hin
  go_upto_region 4 with (first | (with_reducible refine wpList_load_row rfl 29 (.tmp 4) rfl w0.heap.size rfl 29 cs (0, 0) _ B0.out hu29 rfl HIN.out ?_) | (go_at_call 7; refine (set_calls cs (i : Int) 8 v 18446744073709551615 x i _ HSZ.out H1C.out HI.out hi1 HV.out HM.out).mono ?_; rintro e w2 ⟨rfl, hb⟩; rw [HSET.out, HDS.out]; have n0 := Aside0.mk (blk_below B0.out hb); have n1 := Aside0.mk (below_step HB.out hb); clear B0 HB hb; have B0 := n0; have HB := n1; clear n0 n1) | ((with_reducible refine gate_dst (N := 9) rfl ?_); refine box_event rfl (N := 9) rfl (cs := Z29) (t := 29) (by show Sem.run Tryd.prog _ _ = _; simp only [execOp, Sem.run_bind, run_alloc29, Result.andThen_ok, Sem.run_pure]) ?_; intro g1 hg w3 hbox hb; have HL := Aside0.mk (show w0.heap.size < g1 by have := blk_lt B0.out; omega); have n0 := Aside0.mk (blk_below B0.out hb); have n1 := Aside0.mk (below_step HB.out hb); have B1 := Aside0.mk hbox; have HG := Aside0.mk hg; clear B0 HB hb hbox hg; have B0 := n0; have HB := n1; clear n0 n1) | (with_reducible refine wpList_store_row rfl 29 (.tmp 9) (.tmp 40) rfl g1 ds rfl rfl 29 Z29 B1.out (by rw [HDSZ.out]; exact size29) (by rw [HDSZ.out]; kernel_rfl) HD1.out ?_))
  have hkp := keeps_setRow w3 g1 ds
  have hs : BkS w0 w0.heap.size g1 cs ds (w3.setRow g1 ds) := by
    have hB := HB.out.trans (hkp.below HB.out.size (fun k hk h => by have := HL.out; omega))
    exact ⟨hkp.at_ B0.out (by have := HL.out; omega), setRow_heap w3 g1 Z29 ds 29 (0, 0) B1.out, HT.out.below hB, hB⟩
  have HS := Aside0.mk hs
  clear hs hkp B0 B1 HB HIN
  generalize w3.setRow g1 ds = w4 at *
  obtain ⟨g0, hg0⟩ : ∃ g, w0.heap.size = g := ⟨_, rfl⟩
  rw [hg0] at HS
  (try rw [hg0])
  have HG0 := Aside0.mk hg0
  clear hg0 HT
  go_upto_region 7 with (fail)
  refine RS.wp_text [(51, .agg ds), (52, .int .i64 (i : Int)), (53, .int .i64 8), (54, .int .u64 x), (55, .int .u64 x), (56, .bool false), (57, .bool false), (58, .pointer (some ⟨g1, 272, none⟩)), (59, .agg #[.bool C, .bool Z, .bool S, .bool O, .bool P]), (60, .pointer (some ⟨g0, 272, none⟩)), (61, .agg #[.bool C, .bool Z, .bool S, .bool O, .bool P]), (62, .bool false), (63, .bool false), (64, .bool false), (65, .pointer (some ⟨g1, 16, none⟩)), (66, .agg (cs.extract 16 272)), (67, .pointer (some ⟨g0, 16, none⟩)), (68, .agg (cs.extract 16 272)), (69, .bool false), (70, .bool false), (71, .bool false), (72, .pointer (some ⟨g1, 277, none⟩)), (73, .int .u64 ip), (74, .pointer (some ⟨g0, 277, none⟩)), (75, .int .u64 ip), (76, .bool false), (77, .bool false)] (BkS w0 g0 g1 cs ds) (by kernel_rfl) (by kernel_rfl) HS.out ?_ ?_
  · exact ⟨RS.StepOK.load 51 (.agg ds) (by kernel_rfl) (by kernel_rfl) rfl (fun w hS => run_load rfl (by kernel_rfl) (load_row HDSZ.out hS.2.1)),
      RS.StepOK.pure 52 (by kernel_rfl) rfl (fun w => by kernel_rfl),
      RS.StepOK.pure 53 (by kernel_rfl) rfl (fun w => by kernel_rfl),
      RS.StepOK.call 54 8 #[.agg ds, .int .i64 (i : Int), .int .i64 8] (.int .u64 x) (by kernel_rfl) (by kernel_rfl) rfl (fun w => by kernel_rfl) (fun w hS => hS.met (by rw [← HGOT.out]; exact get_calls ds (i : Int) 8 nv 18446744073709551615 i w HI.out hi1 HDI.out HM.out)),
      RS.StepOK.pure 55 (by kernel_rfl) rfl (fun w => by kernel_rfl),
      RS.StepOK.load 56 (.bool false) (by kernel_rfl) (by kernel_rfl) rfl (fun w hS => run_bin rfl (by kernel_rfl) (by kernel_rfl) (by kernel_rfl) (neq_u64 x w)),
      RS.StepOK.pure 57 (by kernel_rfl) rfl (fun w => by kernel_rfl),
      RS.StepOK.pure 58 (by kernel_rfl) rfl (fun w => by kernel_rfl),
      RS.StepOK.load 59 (.agg #[.bool C, .bool Z, .bool S, .bool O, .bool P]) (by kernel_rfl) (by kernel_rfl) rfl (fun w hS => run_load rfl (by kernel_rfl) (by rw [← HDF.out]; exact load_F HDSZ.out hS.2.1)),
      RS.StepOK.pure 60 (by kernel_rfl) rfl (fun w => by kernel_rfl),
      RS.StepOK.load 61 (.agg #[.bool C, .bool Z, .bool S, .bool O, .bool P]) (by kernel_rfl) (by kernel_rfl) rfl (fun w hS => run_load rfl (by kernel_rfl) (by rw [← HF.out]; exact load_F HSZ.out hS.1)),
      (by cases C <;> cases Z <;> cases S <;> cases O <;> cases P <;> exact RS.StepOK.pure 62 (by kernel_rfl) rfl (fun w => by kernel_rfl)),
      RS.StepOK.pure 63 (by kernel_rfl) rfl (fun w => by kernel_rfl),
      RS.StepOK.pure 64 (by kernel_rfl) rfl (fun w => by kernel_rfl),
      RS.StepOK.pure 65 (by kernel_rfl) rfl (fun w => by kernel_rfl),
      RS.StepOK.load 66 (.agg (cs.extract 16 272)) (by kernel_rfl) (by kernel_rfl) rfl (fun w hS => run_load rfl (by kernel_rfl) (by rw [← HDX.out]; exact load_X HDSZ.out hS.2.1)),
      RS.StepOK.pure 67 (by kernel_rfl) rfl (fun w => by kernel_rfl),
      RS.StepOK.load 68 (.agg (cs.extract 16 272)) (by kernel_rfl) (by kernel_rfl) rfl (fun w hS => run_load rfl (by kernel_rfl) (load_X HSZ.out hS.1)),
      RS.StepOK.load 69 (.bool false) (by kernel_rfl) (by kernel_rfl) rfl (fun w hS => run_bin rfl (by kernel_rfl) (by kernel_rfl) (by kernel_rfl) (eq_X HX.out w)),
      RS.StepOK.pure 70 (by kernel_rfl) rfl (fun w => by kernel_rfl),
      RS.StepOK.pure 71 (by kernel_rfl) rfl (fun w => by kernel_rfl),
      RS.StepOK.pure 72 (by kernel_rfl) rfl (fun w => by kernel_rfl),
      RS.StepOK.load 73 (.int .u64 ip) (by kernel_rfl) (by kernel_rfl) rfl (fun w hS => run_load rfl (by kernel_rfl) (load_u64 hS.2.1 HDIP.out)),
      RS.StepOK.pure 74 (by kernel_rfl) rfl (fun w => by kernel_rfl),
      RS.StepOK.load 75 (.int .u64 ip) (by kernel_rfl) (by kernel_rfl) rfl (fun w hS => run_load rfl (by kernel_rfl) (load_u64 hS.1 HIP.out)),
      RS.StepOK.load 76 (.bool false) (by kernel_rfl) (by kernel_rfl) rfl (fun w hS => run_bin rfl (by kernel_rfl) (by kernel_rfl) (by kernel_rfl) (neq_u64 ip w)),
      RS.StepOK.pure 77 (by kernel_rfl) rfl (fun w => by kernel_rfl), trivial⟩
  rintro w6 hs
  clear HS
  have HS := Aside0.mk hs
  clear hs
  (try simp only [RS.sets, List.setIfInBounds_toArray, List.set_cons_zero, List.set_cons_succ])
  go_wp2_with fail
  go_loopw [11] (fun u wr => ∃ k : Nat, k ≤ 16 ∧ u = .int .i64 (k : Int) ∧ BkS w0 g0 g1 cs ds wr) (fun u _ => 16 - (RowKit.intOf u).toNat)
  case atStart => exact ⟨0, by omega, rfl, HS.out⟩
  case round =>
    obtain ⟨k, hk, rfl, hs⟩ := hrel
    clear HS
    have HS := Aside0.mk hs
    clear hs
    by_cases hk16 : k < 16
    · by_cases he : k = i
      · subst he
        go_upto_region 12 with (fail)
        refine RS.wp_drawn (by kernel_rfl) [(82, .int .i64 (k : Int)), (83, .int .i64 (k : Int)), (84, .bool false), (85, .bool false), (86, undef), (87, undef), (88, undef), (89, undef), (90, undef), (91, undef), (92, undef), (93, undef), (94, undef), (95, .bool false)] (BkS w0 g0 g1 cs ds) (by kernel_rfl) (by kernel_rfl) (HS.out.below (bW_ (Below.refl _ _) 1)) ?_ ?_
        · exact ⟨RS.StepOK.pure 82 (by kernel_rfl) rfl (fun w => by kernel_rfl),
            RS.StepOK.pure 83 (by kernel_rfl) rfl (fun w => by kernel_rfl),
            RS.StepOK.load 84 (.bool false) (by kernel_rfl) (by kernel_rfl) rfl (fun w hS => run_bin rfl (by kernel_rfl) (by kernel_rfl) (by kernel_rfl) (neq_i64 (k : Int) w)),
            RS.StepOK.pure 85 (by kernel_rfl) rfl (fun w => by kernel_rfl),
            RS.StepOK.off 86 (by kernel_rfl) rfl (by kernel_rfl),
            RS.StepOK.off 87 (by kernel_rfl) rfl (by kernel_rfl),
            RS.StepOK.off 88 (by kernel_rfl) rfl (by kernel_rfl),
            RS.StepOK.off 89 (by kernel_rfl) rfl (by kernel_rfl),
            RS.StepOK.off 90 (by kernel_rfl) rfl (by kernel_rfl),
            RS.StepOK.off 91 (by kernel_rfl) rfl (by kernel_rfl),
            RS.StepOK.off 92 (by kernel_rfl) rfl (by kernel_rfl),
            RS.StepOK.off 93 (by kernel_rfl) rfl (by kernel_rfl),
            RS.StepOK.off 94 (by kernel_rfl) rfl (by kernel_rfl),
            RS.StepOK.pure 95 (by kernel_rfl) rfl (fun w => by kernel_rfl), trivial⟩
        rintro w8 hs
        clear HS
        have HS := Aside0.mk hs
        clear hs
        (try simp only [RS.sets, List.setIfInBounds_toArray, List.set_cons_zero, List.set_cons_succ])
        go_wp2_with fail
        go_roundw
        case rel => exact ⟨k + 1, by omega, by go_num, HS.out⟩
        case measure => simp [RowKit.intOf]; omega
      · have hne : (k : Int) ≠ (i : Int) := by omega
        obtain ⟨u, hu⟩ := HR.out k hk16
        have HU := Aside0.mk hu
        have HUD := Aside0.mk ((HDO.out k he).trans hu)
        clear hu
        go_upto_region 12 with (fail)
        refine RS.wp_drawn (by kernel_rfl) [(82, .int .i64 (k : Int)), (83, .int .i64 (i : Int)), (84, .bool true), (85, .bool true), (86, .int .i64 (k : Int)), (87, .pointer (some ⟨g1, 0, none⟩)), (88, .pointer (some ⟨g1, k, none⟩)), (89, .int .u64 u), (90, .int .i64 (k : Int)), (91, .pointer (some ⟨g0, 0, none⟩)), (92, .pointer (some ⟨g0, k, none⟩)), (93, .int .u64 u), (94, .bool false), (95, .bool false)] (BkS w0 g0 g1 cs ds) (by kernel_rfl) (by kernel_rfl) (HS.out.below (bW_ (Below.refl _ _) 1)) ?_ ?_
        · exact ⟨RS.StepOK.pure 82 (by kernel_rfl) rfl (fun w => by kernel_rfl),
            RS.StepOK.pure 83 (by kernel_rfl) rfl (fun w => by kernel_rfl),
            RS.StepOK.load 84 (.bool true) (by kernel_rfl) (by kernel_rfl) rfl (fun w hS => run_bin rfl (by kernel_rfl) (by kernel_rfl) (by kernel_rfl) (neq_i64' hne w)),
            RS.StepOK.pure 85 (by kernel_rfl) rfl (fun w => by kernel_rfl),
            RS.StepOK.pure 86 (by kernel_rfl) rfl (fun w => by kernel_rfl),
            RS.StepOK.pure 87 (by kernel_rfl) rfl (fun w => by kernel_rfl),
            RS.StepOK.load 88 (.pointer (some ⟨g1, k, none⟩)) (by kernel_rfl) (by kernel_rfl) rfl (fun w hS => run_indexAddr rfl (by kernel_rfl) (by kernel_rfl) (index_at g1 k hk16 w)),
            RS.StepOK.load 89 (.int .u64 u) (by kernel_rfl) (by kernel_rfl) rfl (fun w hS => run_load rfl (by kernel_rfl) (load_u64 hS.2.1 HUD.out)),
            RS.StepOK.pure 90 (by kernel_rfl) rfl (fun w => by kernel_rfl),
            RS.StepOK.pure 91 (by kernel_rfl) rfl (fun w => by kernel_rfl),
            RS.StepOK.load 92 (.pointer (some ⟨g0, k, none⟩)) (by kernel_rfl) (by kernel_rfl) rfl (fun w hS => run_indexAddr rfl (by kernel_rfl) (by kernel_rfl) (index_at g0 k hk16 w)),
            RS.StepOK.load 93 (.int .u64 u) (by kernel_rfl) (by kernel_rfl) rfl (fun w hS => run_load rfl (by kernel_rfl) (load_u64 hS.1 HU.out)),
            RS.StepOK.load 94 (.bool false) (by kernel_rfl) (by kernel_rfl) rfl (fun w hS => run_bin rfl (by kernel_rfl) (by kernel_rfl) (by kernel_rfl) (neq_u64 u w)),
            RS.StepOK.pure 95 (by kernel_rfl) rfl (fun w => by kernel_rfl), trivial⟩
        rintro w8 hs
        clear HS
        have HS := Aside0.mk hs
        clear hs
        (try simp only [RS.sets, List.setIfInBounds_toArray, List.set_cons_zero, List.set_cons_succ])
        go_wp2_with fail
        go_roundw
        case rel => exact ⟨k + 1, by omega, by go_num, HS.out⟩
        case measure => simp [RowKit.intOf]; omega
    · obtain rfl : k = 16 := by omega
      go_upto_region 14 with (fail)
      refine RS.wp_text [(96, .int .i64 (i : Int)), (97, .pointer (some ⟨g1, 0, none⟩)), (98, .pointer (some ⟨g1, i, none⟩)), (99, .int .u64 nv), (100, .int .u64 x), (101, .int .u64 0), (12, .int .u64 0)] (BkS w0 g0 g1 cs ds) (by kernel_rfl) (by kernel_rfl) HS.out ?_ ?_
      · exact ⟨RS.StepOK.pure 96 (by kernel_rfl) rfl (fun w => by kernel_rfl),
          RS.StepOK.pure 97 (by kernel_rfl) rfl (fun w => by kernel_rfl),
          RS.StepOK.load 98 (.pointer (some ⟨g1, i, none⟩)) (by kernel_rfl) (by kernel_rfl) rfl (fun w hS => run_indexAddr rfl (by kernel_rfl) (by kernel_rfl) (index_at g1 i hi1 w)),
          RS.StepOK.load 99 (.int .u64 nv) (by kernel_rfl) (by kernel_rfl) rfl (fun w hS => run_load rfl (by kernel_rfl) (load_u64 hS.2.1 HDI.out)),
          RS.StepOK.pure 100 (by kernel_rfl) rfl (fun w => by kernel_rfl),
          RS.StepOK.load 101 (.int .u64 0) (by kernel_rfl) (by kernel_rfl) rfl (fun w hS => by rw [← HAB.out]; exact run_bin (a := .int .u64 nv) (b := .int .u64 x) rfl (by kernel_rfl) (by kernel_rfl) (by kernel_rfl) (by kernel_rfl)),
          RS.StepOK.pure 12 (by kernel_rfl) rfl (fun w => by kernel_rfl), trivial⟩
      rintro w9 hs
      clear HS
      have HS := Aside0.mk hs
      clear hs
      (try simp only [RS.sets, List.setIfInBounds_toArray, List.set_cons_zero, List.set_cons_succ])
      go_upto_region 16 with (fail)
      refine RS.wp_text [(104, .int .u64 0), (105, .bool true), (106, .bool true), (107, .bool true), (108, .bool true), (8, .bool true)] (BkS w0 g0 g1 cs ds) (by kernel_rfl) (by kernel_rfl) HS.out ?_ ?_
      · exact ⟨RS.StepOK.pure 104 (by kernel_rfl) rfl (fun w => by kernel_rfl),
          RS.StepOK.pure 105 (by kernel_rfl) rfl (fun w => by kernel_rfl),
          RS.StepOK.pure 106 (by kernel_rfl) rfl (fun w => by kernel_rfl),
          RS.StepOK.call 107 6 #[] (.bool true) (by kernel_rfl) (by kernel_rfl) rfl (fun w => by kernel_rfl) (fun w hS => hS.met (wakes_calls w hS.2.2.1)),
          RS.StepOK.pure 108 (by kernel_rfl) rfl (fun w => by kernel_rfl),
          RS.StepOK.pure 8 (by kernel_rfl) rfl (fun w => by kernel_rfl), trivial⟩
      rintro w10 hs
      clear HS
      have HS := Aside0.mk hs
      clear hs
      (try simp only [RS.sets, List.setIfInBounds_toArray, List.set_cons_zero, List.set_cons_succ])
      go_wp2_with fail
      go_ret
      exact ⟨rfl, HS.out.2.2.2⟩
end Go.Proofs.YtpmclnlgipphmaaDoor.B
namespace Go.Proofs.YtpmclnlgipphmaaDoor.B
open Go.RowKit Go.Proofs.YtpmclnlgipphmaaDoorW.PrintWords Go.Proofs.YtpmclnlgipphmaaDoorW.PrintMore Go.RF
set_option linter.unusedVariables false
set_option linter.unusedSimpArgs false
def GoodCpu (cs : Array Value) : Prop := cs.size = 278 ∧ (∀ k, k < 16 → ∃ n : Int, cs[k]? = some (.int .u64 n) ∧ 0 ≤ n ∧ n < 18446744073709551616) ∧ (∀ k, k < 256 → ∃ n : Int, cs[16 + k]? = some (.int .u8 n)) ∧
  (∃ C Z S O P : Bool, cs[272]? = some (.bool C) ∧ cs[273]? = some (.bool Z) ∧ cs[274]? = some (.bool S) ∧ cs[275]? = some (.bool O) ∧ cs[276]? = some (.bool P)) ∧ ∃ n : Int, cs[277]? = some (.int .u64 n)
theorem GoodCpu.cells {cs : Array Value} (h : GoodCpu cs) : cs.all (·.oneCell') = true := by
  obtain ⟨hsz, hR, hX, ⟨C, Z, S, O, P, f0, f1, f2, f3, f4⟩, ip, hip⟩ := h
  rw [Array.all_eq_true]
  intro i hi
  have key : ∀ v, cs[i]? = some v → v.oneCell' = true → (cs[i]).oneCell' = true := fun v h1 h2 => by
    rw [Array.getElem?_eq_getElem hi] at h1
    rw [Option.some.inj h1]; exact h2
  by_cases h1 : i < 16
  · obtain ⟨n, hn, _⟩ := hR i h1
    exact key _ hn rfl
  by_cases h2 : i < 272
  · obtain ⟨n, hn⟩ := hX (i - 16) (by omega)
    rw [show 16 + (i - 16) = i by omega] at hn
    exact key _ hn rfl
  by_cases e0 : i = 272
  · subst e0; exact key _ f0 rfl
  by_cases e1 : i = 273
  · subst e1; exact key _ f1 rfl
  by_cases e2 : i = 274
  · subst e2; exact key _ f2 rfl
  by_cases e3 : i = 275
  · subst e3; exact key _ f3 rfl
  by_cases e4 : i = 276
  · subst e4; exact key _ f4 rfl
  by_cases e5 : i = 277
  · subst e5; exact key _ hip rfl
  omega
theorem GoodCpu.flags {cs : Array Value} {C Z S O P : Bool} (hsz : cs.size = 278) (f0 : cs[272]? = some (.bool C)) (f1 : cs[273]? = some (.bool Z)) (f2 : cs[274]? = some (.bool S)) (f3 : cs[275]? = some (.bool O)) (f4 : cs[276]? = some (.bool P)) :
    cs.extract 272 277 = #[.bool C, .bool Z, .bool S, .bool O, .bool P] := by
  apply Array.ext
  · simp [hsz]
  · intro i h1 h2
    have h2' : i < 5 := by simpa using h2
    apply Option.some.inj
    rw [← Array.getElem?_eq_getElem h1, ← Array.getElem?_eq_getElem h2, Array.getElem?_extract, if_pos (by omega)]
    rcases (by omega : i = 0 ∨ i = 1 ∨ i = 2 ∨ i = 3 ∨ i = 4) with rfl | rfl | rfl | rfl | rfl
    · exact f0
    · exact f1
    · exact f2
    · exact f3
    · exact f4
set_option maxHeartbeats 8000000 in
set_option maxRecDepth 100000 in
theorem back_not (cs : Array Value) (r wd x : Int) (w : World) (hT : Tab w) (hN : r < 0 ∨ 15 < r ∨ (wd ≠ 1 ∧ wd ≠ 2 ∧ wd ≠ 4 ∧ wd ≠ 8)) :
    Calls Tryd.prog 3 #[.agg cs, .int .i64 r, .int .i64 wd, .int .u64 x] w fun e w' => e = .returned (.bool true) ∧ Below w.heap.size w w' := by
  have hbl : Below w.heap.size w (w.alloc (.cells cs 29)) := bX_ (Below.refl _ _) _
  have HB := Aside0.mk hbl
  have HT := Aside0.mk (hT.below hbl)
  clear hbl hT
  by_cases h0 : r < 0
  · have c0 : decide (r < 0) = true := decide_eq_true h0
    clear hN h0
    go_enter Tryd.func3, Tryd.ntmps3
    go_wp2_with (first | (go_at_call 6; refine (wakes_calls _ HT.out).mono ?_; rintro e w2 ⟨rfl, hb⟩))
    go_ret
    exact ⟨rfl, below_step HB.out hb⟩
  have c0 : decide (r < 0) = false := decide_eq_false h0
  by_cases h1 : 15 < r
  · have c1 : decide (15 < r) = true := decide_eq_true h1
    clear hN h0 h1
    go_enter Tryd.func3, Tryd.ntmps3
    go_wp2_with (first | (go_at_call 6; refine (wakes_calls _ HT.out).mono ?_; rintro e w2 ⟨rfl, hb⟩))
    go_ret
    exact ⟨rfl, below_step HB.out hb⟩
  have c1 : decide (15 < r) = false := decide_eq_false h1
  have hw : wd ≠ 1 ∧ wd ≠ 2 ∧ wd ≠ 4 ∧ wd ≠ 8 := by omega
  have n1 : (wd != 1) = true := bne_iff_ne.2 hw.1
  have n2 : (wd != 2) = true := bne_iff_ne.2 hw.2.1
  have n4 : (wd != 4) = true := bne_iff_ne.2 hw.2.2.1
  have n8 : (wd != 8) = true := bne_iff_ne.2 hw.2.2.2
  clear hN h0 h1 hw
  go_enter Tryd.func3, Tryd.ntmps3
  go_wp2_with (first | (go_at_call 6; refine (wakes_calls _ HT.out).mono ?_; rintro e w2 ⟨rfl, hb⟩))
  go_ret
  exact ⟨rfl, below_step HB.out hb⟩
theorem back_calls (cs : Array Value) (r wd x : Int) (w : World) (hT : Tab w) (hG : GoodCpu cs) (hx0 : 0 ≤ x) (hx1 : x < 18446744073709551616) :
    Calls Tryd.prog 3 #[.agg cs, .int .i64 r, .int .i64 wd, .int .u64 x] w fun e w' => e = .returned (.bool true) ∧ Below w.heap.size w w' := by
  by_cases hN : r < 0 ∨ 15 < r ∨ (wd ≠ 1 ∧ wd ≠ 2 ∧ wd ≠ 4 ∧ wd ≠ 8)
  · exact back_not cs r wd x w hT hN
  obtain ⟨i, rfl⟩ := Int.eq_ofNat_of_zero_le (show 0 ≤ r by omega)
  have hi : i < 16 := by omega
  have h1c := hG.cells
  obtain ⟨hsz, hR, hX, ⟨C, Z, S, O, P, f0, f1, f2, f3, f4⟩, ip, hip⟩ := hG
  have hF := GoodCpu.flags hsz f0 f1 f2 f3 f4
  obtain ⟨v, hv, hv0, hv1⟩ := hR i hi
  have hX' : ∀ k, k < 256 → ∃ n, (cs.extract 16 272)[k]? = some (.int .u8 n) := fun k hk => by
    obtain ⟨n, hn⟩ := hX k hk
    exact ⟨n, by rw [Array.getElem?_extract, if_pos (by omega)]; exact hn⟩
  have hR' : ∀ k, k < 16 → ∃ n, cs[k]? = some (.int .u64 n) := fun k hk => by
    obtain ⟨n, hn, _⟩ := hR k hk
    exact ⟨n, hn⟩
  rcases (by omega : wd = 1 ∨ wd = 2 ∨ wd = 4 ∨ wd = 8) with rfl | rfl | rfl | rfl
  · exact back_1 cs i v x ip C Z S O P w hsz h1c hi hR' hv hv0 hv1 hx0 hx1 hX' hF hip hT
  · exact back_2 cs i v x ip C Z S O P w hsz h1c hi hR' hv hv0 hv1 hx0 hx1 hX' hF hip hT
  · exact back_4 cs i v x ip C Z S O P w hsz h1c hi hR' hv hv0 hv1 hx0 hx1 hX' hF hip hT
  · exact back_8 cs i v x ip C Z S O P w hsz h1c hi hR' hv hv0 hv1 hx0 hx1 hX' hF hip hT
end Go.Proofs.YtpmclnlgipphmaaDoor.B
namespace Go.Proofs.YtpmclnlgipphmaaDoor.B
open Go.RowKit Go.ChangeShapes Go.WideShapes Go.ChangeAt
set_option linter.unusedVariables false
theorem globalHolds : Tryd.prog.globalNamed "sundial/cpu.holds" = some 0 := by kernel_rfl
theorem typeHolds : (Tryd.prog.globals[0]?).map (·.type) = some 54 := by kernel_rfl
theorem tableHolds : Tryd.prog.underlying 54 = some (.array 8 53) := by kernel_rfl
theorem cellsHolds : Tryd.prog.cellsOf 53 = 1 := by kernel_rfl
theorem cellsTable : Tryd.prog.cellsOf 54 = 8 := by kernel_rfl
theorem door_met (os : Os) (args : Array Value) : laidMetH Tryd.prog [("sundial/cpu.holds", Rows.laid_sundial_cpu_holds)] ((World.doorLaid Tryd.prog 600 os).forCall (fun _ _ => 0) ⟨#[], args, []⟩).memory :=
  laidMetH_of_parts3 (fuel := 8) (laidMet_of_run' 8 (by kernel_rfl) (by kernel_rfl)) (by kernel_rfl) (by kernel_rfl)
def heldNames : List (DataW (List UInt8)) := [.held [115, 117, 110, 100, 105, 97, 108, 47, 99, 112, 117, 46, 104, 111, 108, 100, 115, 36, 49], .held [115, 117, 110, 100, 105, 97, 108, 47, 99, 112, 117, 46, 104, 111, 108, 100, 115, 36, 50], .held [115, 117, 110, 100, 105, 97, 108, 47, 99, 112, 117, 46, 104, 111, 108, 100, 115, 36, 51], .held [115, 117, 110, 100, 105, 97, 108, 47, 99, 112, 117, 46, 104, 111, 108, 100, 115, 36, 52], .held [115, 117, 110, 100, 105, 97, 108, 47, 99, 112, 117, 46, 104, 111, 108, 100, 115, 36, 53], .held [115, 117, 110, 100, 105, 97, 108, 47, 99, 112, 117, 46, 104, 111, 108, 100, 115, 36, 54], .held [115, 117, 110, 100, 105, 97, 108, 47, 99, 112, 117, 46, 104, 111, 108, 100, 115, 36, 55], .held [115, 117, 110, 100, 105, 97, 108, 47, 99, 112, 117, 46, 104, 111, 108, 100, 115, 36, 56]]
theorem laid_of {W : World} (h : laidMetH Tryd.prog [("sundial/cpu.holds", Rows.laid_sundial_cpu_holds)] W) : Tab W := by
  obtain ⟨g, t, cs, fuel, p, hg, ht, hv, hd⟩ := h.funcs (List.mem_singleton.2 rfl)
  obtain rfl := Option.some.inj (globalHolds.symm.trans hg)
  obtain rfl := Option.some.inj (typeHolds.symm.trans ht)
  have hd' : DataW.trod (funcToken Tryd.prog) Tryd.prog W 0 (fun _ => true) true fuel 54 cs.toList = some (.agg heldNames, p) := hd
  obtain ⟨xs, n, rfl, hx, hcl, hxl, hF⟩ := DataW.trod_array tableHolds hd'
  injection hx with hx1 _
  injection hx1 with hx1
  rw [cellsTable] at hcl
  have key : ∀ (i : Nat) (b : UInt8) (r : List UInt8) (f0 : Nat), i < 8 → heldNames[i]? = some (.held (b :: r)) → ((List.range Tryd.prog.funcs.size).filter fun f => (Tryd.prog.funcs[f]?).any (·.name.toUTF8.data.toList == b :: r)) = [f0] →
      W.cell? ⟨0, i, none⟩ = some (.func (.func f0) #[] #[]) := by
    intro i b r f0 hi hn hone
    have hi2 : i < cs.toList.length := by omega
    have h1 := hF i hi
    rw [cellsHolds, Nat.mul_one] at h1
    have hdrop : (cs.toList.drop i).take 1 = [cs.toList[i]] := by
      rw [List.drop_eq_getElem_cons hi2]; rfl
    rw [hdrop] at h1
    have hxi : xs[i]? = some xs[i] := List.getElem?_eq_getElem (by omega)
    rw [hxi] at h1
    have hq : xs[i].1 = .held (b :: r) := by
      rw [hx1, List.getElem?_map, hxi] at hn
      simpa using hn
    have h2 : DataW.trod (funcToken Tryd.prog) Tryd.prog W 0 (fun _ => true) true n 53 [cs.toList[i]] = some (.held (b :: r), xs[i].2) := by rw [h1, ← hq]
    have h3 := func_of_trod Tryd.underlying53 hone h2
    have h4 := World.var?_cell hg hv i
    rw [h4]
    rw [Array.getElem_toList] at h3
    rw [Array.getElem?_eq_getElem (by simpa using hi2), h3]
  exact ⟨key 0 _ _ 41 (by decide) rfl (by kernel_rfl), key 1 _ _ 42 (by decide) rfl (by kernel_rfl), key 2 _ _ 43 (by decide) rfl (by kernel_rfl), key 3 _ _ 44 (by decide) rfl (by kernel_rfl), key 4 _ _ 45 (by decide) rfl (by kernel_rfl), key 5 _ _ 46 (by decide) rfl (by kernel_rfl), key 6 _ _ 47 (by decide) rfl (by kernel_rfl), key 7 _ _ 48 (by decide) rfl (by kernel_rfl)⟩
end Go.Proofs.YtpmclnlgipphmaaDoor.B
namespace Go.Proofs.YtpmclnlgipphmaaDoor.B
open Go.RowKit Go.ChangeShapes Go.WideShapes Go.ChangeAt
set_option linter.unusedVariables false
theorem wf_u64 {x : Int} (h : (Lit.int .u64 x).wf = true) : 0 ≤ x ∧ x < 18446744073709551616 := by
  have h' : IntKind.u64.min ≤ x ∧ x ≤ IntKind.u64.max := by simpa [Lit.wf] using h
  have e1 : IntKind.u64.min = 0 := rfl
  have e2 : IntKind.u64.max = 18446744073709551615 := rfl
  omega
section
variable {H : Type} {enc : TypeId × Value → H} {w : World} {base : Nat} {spare : Nat → Bool} {held : Bool}
theorem take_one {l : List Value} {o : Nat} (h : o < l.length) : (l.drop o).take 1 = [l[o]] := by
  rw [List.drop_eq_getElem_cons h]; rfl
theorem arr_ints {fuel n : Nat} {t e : TypeId} {k : IntKind} {cs : List Value} {x : DataW H × List MemPlace} (ht : Tryd.prog.underlying t = some (.array n e)) (he : Tryd.prog.underlying e = some (.int k)) (hce : Tryd.prog.cellsOf e = 1) (hct : Tryd.prog.cellsOf t = n)
    (h : DataW.trod enc Tryd.prog w base spare held fuel t cs = some x) (i : Nat) (hi : i < n) : ∃ z, cs[i]? = some (.int k z) ∧ (Lit.int k z).wf = true := by
  obtain ⟨xs, m, rfl, _, hcl, hxl, hF⟩ := DataW.trod_array ht h
  rw [hct] at hcl
  have h1 := hF i hi
  rw [hce, Nat.mul_one, take_one (by omega), List.getElem?_eq_getElem (by omega)] at h1
  obtain ⟨z, hz, _, hw⟩ := DataW.trod_int he h1
  injection hz with hz
  exact ⟨z, by rw [List.getElem?_eq_getElem (by omega), hz], hw⟩
theorem cut_at {l : List Value} {o n i : Nat} (hi : i < n) : ((l.drop o).take n)[i]? = l[o + i]? := by
  rw [List.getElem?_take, if_pos hi, List.getElem?_drop]
theorem ag_cpu {v : Value} {d : DataW H} {ps : List MemPlace} (hv : ∃ cs, v = .agg cs ∧ cs.size = Tryd.prog.cellsOf 29) (h : DataW.Trod enc Tryd.prog w base spare held 29 v d ps) : ∃ cs, v = .agg cs ∧ GoodCpu cs := by
  obtain ⟨⟨cs⟩, rfl, hsz⟩ := hv
  have hsz' : cs.length = 278 := hsz.trans (by kernel_rfl)
  obtain ⟨fuel, hf⟩ := h
  obtain ⟨xs, n, rfl, _, hcl, hxl, hF⟩ := DataW.trod_struct Tryd.underlying29 hf
  have hxl' : xs.length = 4 := hxl
  match xs, hxl' with
  | [y0, y1, y2, y3], _ =>
    have g0 : DataW.trod enc Tryd.prog w base spare held n 23 ((cs.drop 0).take (Tryd.prog.cellsOf 23)) = some y0 := hF 0 _ rfl
    have g1 : DataW.trod enc Tryd.prog w base spare held n 25 ((cs.drop 16).take (Tryd.prog.cellsOf 25)) = some y1 := hF 1 _ rfl
    have g2 : DataW.trod enc Tryd.prog w base spare held n 27 ((cs.drop 272).take (Tryd.prog.cellsOf 27)) = some y2 := hF 2 _ rfl
    have g3 : DataW.trod enc Tryd.prog w base spare held n 22 ((cs.drop 277).take (Tryd.prog.cellsOf 22)) = some y3 := hF 3 _ rfl
    have c23 : Tryd.prog.cellsOf 23 = 16 := by kernel_rfl
    have c25 : Tryd.prog.cellsOf 25 = 256 := by kernel_rfl
    have c24 : Tryd.prog.cellsOf 24 = 16 := by kernel_rfl
    have c27 : Tryd.prog.cellsOf 27 = 5 := by kernel_rfl
    have c22 : Tryd.prog.cellsOf 22 = 1 := by kernel_rfl
    have c5 : Tryd.prog.cellsOf 5 = 1 := by kernel_rfl
    have u23 : Tryd.prog.underlying 23 = some (.array 16 22) := by kernel_rfl
    have u25 : Tryd.prog.underlying 25 = some (.array 16 24) := by kernel_rfl
    have u24 : Tryd.prog.underlying 24 = some (.array 16 5) := by kernel_rfl
    rw [c23] at g0
    rw [c25] at g1
    rw [c27] at g2
    rw [c22, take_one (by omega)] at g3
    refine ⟨⟨cs⟩, rfl, hsz', fun k hk => ?_, fun k hk => ?_, ?_, ?_⟩
    · obtain ⟨z, hz, hw⟩ := arr_ints u23 Tryd.underlying22 c22 c23 g0 k hk
      rw [cut_at hk, Nat.zero_add] at hz
      have := wf_u64 hw
      exact ⟨z, by simpa using hz, this.1, this.2⟩
    · obtain ⟨zs, m, rfl, _, hcl2, hzl, hG⟩ := DataW.trod_array u25 g1
      have h1 := hG (k / 16) (by omega)
      rw [c24, List.getElem?_eq_getElem (by omega)] at h1
      obtain ⟨z, hz, _⟩ := arr_ints u24 Tryd.underlying5 c5 c24 h1 (k % 16) (by omega)
      rw [cut_at (by omega), List.getElem?_take, if_pos (by omega), List.getElem?_drop] at hz
      rw [show 16 + (k / 16 * 16 + k % 16) = 16 + k by omega] at hz
      exact ⟨z, by simpa using hz⟩
    · obtain ⟨zs, m, rfl, _, hcl2, hzl, hG⟩ := DataW.trod_struct Tryd.underlying27 g2
      have hzl' : zs.length = 5 := hzl
      match zs, hzl' with
      | [z0, z1, z2, z3, z4], _ =>
        have c4 : Tryd.prog.cellsOf 4 = 1 := by kernel_rfl
        have l5 : ((cs.drop 272).take 5).length = 5 := by simp [hsz']
        have e0 : DataW.trod enc Tryd.prog w base spare held m 4 ((((cs.drop 272).take 5).drop 0).take (Tryd.prog.cellsOf 4)) = some z0 := hG 0 _ rfl
        have e1 : DataW.trod enc Tryd.prog w base spare held m 4 ((((cs.drop 272).take 5).drop 1).take (Tryd.prog.cellsOf 4)) = some z1 := hG 1 _ rfl
        have e2 : DataW.trod enc Tryd.prog w base spare held m 4 ((((cs.drop 272).take 5).drop 2).take (Tryd.prog.cellsOf 4)) = some z2 := hG 2 _ rfl
        have e3 : DataW.trod enc Tryd.prog w base spare held m 4 ((((cs.drop 272).take 5).drop 3).take (Tryd.prog.cellsOf 4)) = some z3 := hG 3 _ rfl
        have e4 : DataW.trod enc Tryd.prog w base spare held m 4 ((((cs.drop 272).take 5).drop 4).take (Tryd.prog.cellsOf 4)) = some z4 := hG 4 _ rfl
        rw [c4, take_one (by omega)] at e0 e1 e2 e3 e4
        have key : ∀ (j : Nat) (hj : j < ((cs.drop 272).take 5).length) (z : DataW H × List MemPlace), DataW.trod enc Tryd.prog w base spare held m 4 [((cs.drop 272).take 5)[j]] = some z → ∃ b, cs[272 + j]? = some (.bool b) := by
          intro j hj z hz
          obtain ⟨b, hb, _⟩ := DataW.trod_bool Tryd.underlying4 hz
          injection hb with hb
          refine ⟨b, ?_⟩
          rw [← cut_at (n := 5) (by omega), List.getElem?_eq_getElem hj, hb]
        obtain ⟨b0, h0⟩ := key 0 (by omega) _ e0
        obtain ⟨b1, h1⟩ := key 1 (by omega) _ e1
        obtain ⟨b2, h2⟩ := key 2 (by omega) _ e2
        obtain ⟨b3, h3⟩ := key 3 (by omega) _ e3
        obtain ⟨b4, h4⟩ := key 4 (by omega) _ e4
        exact ⟨b0, b1, b2, b3, b4, by simpa using h0, by simpa using h1, by simpa using h2, by simpa using h3, by simpa using h4⟩
    · obtain ⟨z, hz, _, hw⟩ := DataW.trod_int Tryd.underlying22 g3
      injection hz with hz
      refine ⟨z, ?_⟩
      have : cs[277]? = some (.int .u64 z) := by rw [List.getElem?_eq_getElem (by omega), hz]
      simpa using this
end
open Classical in
noncomputable def sundiallaw14_CpuBack.f (cs : Array Value) (_r _wd x : Int) : Option Bool := if GoodCpu cs ∧ 0 ≤ x ∧ x < 18446744073709551616 then some true else none
theorem sundiallaw14_CpuBack.calls (cs : Array Value) (r wd x : Int) (b : Bool) (w : World) (hT : Tab w) (h : sundiallaw14_CpuBack.f cs r wd x = some b) :
    Calls Tryd.prog 3 #[.agg cs, .int .i64 r, .int .i64 wd, .int .u64 x] w fun e w' => e = .returned (.bool b) ∧ Below w.heap.size w w' := by
  unfold sundiallaw14_CpuBack.f at h
  by_cases hc : GoodCpu cs ∧ 0 ≤ x ∧ x < 18446744073709551616
  · rw [if_pos hc] at h
    obtain rfl := Option.some.inj h
    exact back_calls cs r wd x w hT hc.1 hc.2.1 hc.2.2
  · rw [if_neg hc] at h
    cases h
theorem Pure.CpuBack (cs : Array Value) (r wd x : Int) (hg : GoodCpu cs) (w1 : (Lit.int .i64 r).wf = true) (w2 : (Lit.int .i64 wd).wf = true) (w3 : (Lit.int .u64 x).wf = true) : sundiallaw14_CpuBack.f cs r wd x = some true := if_pos ⟨hg, wf_u64 w3⟩
end Go.Proofs.YtpmclnlgipphmaaDoor.B
namespace Go.Proofs.YtpmclnlgipphmaaDoor.cpuBack
open Go.ChangeShapes Go.WideShapes Go.ChangeAt Go.RowKit
open Go.Proofs.YtpmclnlgipphmaaDoorW.PrintWords
set_option linter.unusedVariables false
theorem own : ownKnob Tryd.prog.godebug = none := by kernel_rfl
theorem laidOut : laidOutB Tryd.prog = true := by kernel_rfl
set_option maxRecDepth 100000 in
theorem lifted (os : Os) (started : os.Started) (H : Type) (enc : TypeId × Value → H) :
    ReturnsInHanded {} Tryd.checked os 3 .any (fun w args => (Rows.cpuBackSpec.pre enc Tryd.prog Tryd.f3 [] false w args ∧ laidMetH Tryd.prog Rows.cpuBackRow.laid w) ∧ sizedMet enc Tryd.prog Tryd.f3 (OpenSpec.ofChange Rows.cpuBackSpec) false w args) (Rows.cpuBackSpec.post enc Tryd.prog Tryd.f3 false true false false) := by
  refine returnsInHanded_of_change_and (C := Tryd.checked) (X := fun w _ => laidMetH Tryd.prog Rows.cpuBackRow.laid w) (fun _ _ _ hh h => h.of_heap hh) own started (by kernel_rfl) Tryd.func3
    (ChangeSpec.witness_shaped (enc := enc) (C := Tryd.checked) (os := os) (X := fun w _ => laidMetH Tryd.prog Rows.cpuBackRow.laid w) false (World.doorLaid Tryd.prog 600 os) #[.agg Go.Proofs.YtpmclnlgipphmaaDoor.B.Z29, .int .i64 0, .int .i64 0, .int .u64 0] 8 rfl (World.shaped_of_RefB (by kernel_rfl) (by kernel_rfl)) (by kernel_rfl) (by kernel_rfl) (by kernel_rfl) (Go.Proofs.YtpmclnlgipphmaaDoor.B.door_met os _)) ?_
  intro W base args ds gs before hval0 hW hcnd hsz0 hL _
  have hval : ∀ (j : Nat) t v, Tryd.f3.params[j]? = some t → args[j]? = some v → Value.okWide Tryd.prog W .any base t v := hval0
  have hW' := hW
  obtain ⟨p, q, hA0, hV, rfl, hfz, hnd⟩ := hW
  have hA : DataW.TrodAll enc Tryd.prog W 0 (fun _ => true) true Tryd.f3.params.toList args.toList ds p := hA0
  rw [Tryd.params3] at hA hval
  obtain ⟨v0, vs0, d0, ds0, p0, q0, hargs, rfl, rfl, h0, r0⟩ := trodAll_cons hA
  obtain ⟨v1, vs1, d1, ds1, p1, q1, rfl, rfl, rfl, h1, r1⟩ := trodAll_cons r0
  obtain ⟨v2, vs2, d2, ds2, p2, q2, rfl, rfl, rfl, h2, r2⟩ := trodAll_cons r1
  obtain ⟨v3, vs3, d3, ds3, p3, q3, rfl, rfl, rfl, h3, r3⟩ := trodAll_cons r2
  obtain ⟨rfl, rfl, rfl⟩ := trodAll_nil r3
  obtain rfl : args = #[v0, v1, v2, v3] := by cases args; simp_all
  obtain ⟨rfl, rfl⟩ := trodVars_none hV
  have e0 := okWide_struct Tryd.underlying29 (hval 0 29 v0 rfl rfl)
  have k0 := h0
  have lt0 : ∀ x ∈ p0, x.block < W.heap.size := by obtain ⟨m, hm⟩ := k0; exact DataW.trod_lt m _ _ _ hm
  obtain ⟨cs0, rfl, hg0⟩ := Go.Proofs.YtpmclnlgipphmaaDoor.B.ag_cpu e0 h0
  obtain ⟨a1, rfl, rfl, rfl, w1⟩ := open_int Tryd.underlying3 (hval 1 3 v1 rfl rfl) h1
  obtain ⟨a2, rfl, rfl, rfl, w2⟩ := open_int Tryd.underlying3 (hval 2 3 v2 rfl rfl) h2
  obtain ⟨a3, rfl, rfl, rfl, w3⟩ := open_int Tryd.underlying22 (hval 3 22 v3 rfl rfl) h3
  clear hA0 hval0 hsz0
  have h := Go.Proofs.YtpmclnlgipphmaaDoor.B.Pure.CpuBack cs0 a1 a2 a3 hg0 w1 w2 w3
  refine (Go.Proofs.YtpmclnlgipphmaaDoor.B.sundiallaw14_CpuBack.calls cs0 a1 a2 a3 true W (Go.Proofs.YtpmclnlgipphmaaDoor.B.laid_of hL) h).mono ?_
  rintro e W' ⟨rfl, bel⟩
  exact ⟨_, rfl, _, _, _, [], _, [], hW', trodAll_mk1 (shut_bool Tryd.underlying4 _), (trodAll_cons_mk (Below.trod laidOut (by kernel_rfl) (of_decide_eq_true (by kernel_rfl)) k0 bel lt0) (trodAll_cons_mk (shut_int Tryd.underlying3 w1) (trodAll_cons_mk (shut_int Tryd.underlying3 w2) (trodAll_cons_mk (shut_int Tryd.underlying22 w3) trodAll_mk0)))), rfl, bel.frame _, fun h => by cases h⟩
theorem over : Rows.cpuBackRow.holds Tryd.pinned (OpenSpec.ofChange Rows.cpuBackSpec) :=
  OpenClaim.holds_of_wide 3 Tryd.f3 rfl rfl rfl rfl rfl rfl rfl ⟨rfl, rfl, rfl, rfl, rfl⟩ rfl rfl rfl rfl rfl (by kernel_rfl) Tryd.func3 (by kernel_rfl)
    (of_decide_eq_true (by kernel_rfl)) (by unfold Func.isWrapper; first | (rw [if_pos (by decide +kernel)]; kernel_rfl) | (rw [if_neg (by decide +kernel)]; exact ⟨rfl, rfl⟩))
    (fun os started H enc _ => lifted os started H enc)
theorem proved : Rows.CpuBackSaid := over
theorem card : Rows.CpuBackCardSaid :=
  Claim7.holds_tied_plain_at .later [] [.funcs] true (true, "e9ee359ac8cb1a941a1d8ff47a9105931ca34af6fdbdabfa8a7145b435610fd2") false proved (fun _ h => by cases h) (by kernel_rfl) (fun _ h => by cases h) cpuBack_row_tie rfl ⟨rfl, rfl⟩ (by kernel_rfl) rfl
    (fun f fn hf hfn => by
      obtain rfl : f = 3 := Option.some.inj ((show Tryd.prog.funcNamed Rows.cpuBackRow.func = some 3 by kernel_rfl).symm.trans hf) |>.symm
      obtain rfl : fn = Tryd.f3 := (Option.some.inj (Tryd.func3.symm.trans hfn)).symm
      exact ⟨by kernel_rfl, fun j t ht => by
        rw [Tryd.params3] at ht
        have hm : t ∈ [29, 3, 3, 22] := by simpa using Array.mem_of_getElem? ht
        have hall : ([29, 3, 3, 22].all fun u => !Tryd.prog.wantsStandIn u) = true := by kernel_rfl
        exact (show Tryd.prog.wantsStandIn t = false by simpa using List.all_eq_true.1 hall t hm)⟩)
    (by kernel_rfl)
#print axioms card
end Go.Proofs.YtpmclnlgipphmaaDoor.cpuBack
namespace Go.Proofs.YtpmclnlgipphmaaDoor
theorem cpuBack_holds : Rows.CpuBackCardSaid := cpuBack.card
end Go.Proofs.YtpmclnlgipphmaaDoor
