/- operand.Put at memory, walked. operand.Put at what may not be, walked. operand.Put in general: what it tells, as numbers. -/
import Derived.Test.YtppeidopijnnlaaDoorBq6
namespace Go.Proofs.YtppeidopijnnlaaDoor.B
open Go.RowKit Go.Proofs.YtppeidopijnnlaaDoorW.PrintWords Go.Proofs.YtppeidopijnnlaaDoorW.PrintMore Go.RF
set_option linter.unusedVariables false
set_option linter.unusedSimpArgs false
attribute [local go_sem] Oper.semAt_some
def putMR (reg base idx : Int) : Int :=
  let r1 := if 0 ≤ base then Go.bits .or .u8 (highF reg * 4 % 256) (highF base) else highF reg * 4 % 256
  if 0 ≤ idx then Go.bits .or .u8 r1 (IntKind.u8.wrap (highF idx * 2)) else r1
def putMB (reg base idx sc dp md : Int) (wd : Nat) : List Int :=
  let fx := lowF reg * 8 % 256
  let bs := if 0 ≤ base then lowF base else 5
  let ix := if 0 ≤ idx then lowF idx else 4
  let sca := if 0 ≤ idx then tzN sc else 0
  if 0 ≤ idx ∨ base < 0 ∨ bs = 4 then [(Go.bits .or .u8 (Go.bits .or .u8 (md * 64 % 256) fx) 4), (Go.bits .or .u8 (Go.bits .or .u8 (sca % 256 * 64 % 256) (ix * 8 % 256)) bs)] ++ dispB dp wd
  else [(Go.bits .or .u8 (Go.bits .or .u8 (md * 64 % 256) fx) bs)] ++ dispB dp wd
theorem putMR_eq {reg base idx fl fh rx fx bl bh r1 r2 ih il sca ix bs PR sc : Int} (HPR : putMR reg base idx = PR) (HE : lowF reg = fl ∧ highF reg = fh) (HX : fl * 8 % 256 = fx ∧ fh * 4 % 256 = rx) (HE2 : lowF base = bl ∧ highF base = bh)
    (HE3 : (if 0 ≤ base then Go.bits .or .u8 rx bh else rx) = r1 ∧ (if 0 ≤ base then bl else (5 : Int)) = bs) (HE4 : lowF idx = il ∧ highF idx = ih)
    (HE5 : (if 0 ≤ idx then Go.bits .or .u8 r1 (IntKind.u8.wrap (ih * 2)) else r1) = r2 ∧ (if 0 ≤ idx then il else (4 : Int)) = ix ∧ (if 0 ≤ idx then tzN sc else (0 : Int)) = sca) : PR = r2 := by
  obtain ⟨rfl, rfl⟩ := HE
  obtain ⟨rfl, rfl⟩ := HX
  obtain ⟨rfl, rfl⟩ := HE2
  obtain ⟨rfl, rfl⟩ := HE3
  obtain ⟨rfl, rfl⟩ := HE4
  obtain ⟨rfl, rfl, rfl⟩ := HE5
  subst HPR
  rfl
theorem putMB_long {reg base idx fl fh rx fx bl bh r1 r2 ih il sca ix bs sc dp md : Int} {wd : Nat} {PB : List Int} (HPB : putMB reg base idx sc dp md wd = PB) (HE : lowF reg = fl ∧ highF reg = fh) (HX : fl * 8 % 256 = fx ∧ fh * 4 % 256 = rx) (HE2 : lowF base = bl ∧ highF base = bh)
    (HE3 : (if 0 ≤ base then Go.bits .or .u8 rx bh else rx) = r1 ∧ (if 0 ≤ base then bl else (5 : Int)) = bs) (HE4 : lowF idx = il ∧ highF idx = ih)
    (HE5 : (if 0 ≤ idx then Go.bits .or .u8 r1 (IntKind.u8.wrap (ih * 2)) else r1) = r2 ∧ (if 0 ≤ idx then il else (4 : Int)) = ix ∧ (if 0 ≤ idx then tzN sc else (0 : Int)) = sca) (h : 0 ≤ idx ∨ base < 0 ∨ bs = 4) :
    PB = [(Go.bits .or .u8 (Go.bits .or .u8 (md * 64 % 256) fx) 4), (Go.bits .or .u8 (Go.bits .or .u8 (sca % 256 * 64 % 256) (ix * 8 % 256)) bs)] ++ dispB dp wd := by
  obtain ⟨rfl, rfl⟩ := HE
  obtain ⟨rfl, rfl⟩ := HX
  obtain ⟨rfl, rfl⟩ := HE2
  obtain ⟨rfl, rfl⟩ := HE3
  obtain ⟨rfl, rfl⟩ := HE4
  obtain ⟨rfl, rfl, rfl⟩ := HE5
  subst HPB
  exact if_pos h
theorem putMB_short {reg base idx fl fh rx fx bl bh r1 r2 ih il sca ix bs sc dp md : Int} {wd : Nat} {PB : List Int} (HPB : putMB reg base idx sc dp md wd = PB) (HE : lowF reg = fl ∧ highF reg = fh) (HX : fl * 8 % 256 = fx ∧ fh * 4 % 256 = rx) (HE2 : lowF base = bl ∧ highF base = bh)
    (HE3 : (if 0 ≤ base then Go.bits .or .u8 rx bh else rx) = r1 ∧ (if 0 ≤ base then bl else (5 : Int)) = bs) (HE4 : lowF idx = il ∧ highF idx = ih)
    (HE5 : (if 0 ≤ idx then Go.bits .or .u8 r1 (IntKind.u8.wrap (ih * 2)) else r1) = r2 ∧ (if 0 ≤ idx then il else (4 : Int)) = ix ∧ (if 0 ≤ idx then tzN sc else (0 : Int)) = sca) (h : ¬ (0 ≤ idx ∨ base < 0 ∨ bs = 4)) :
    PB = [(Go.bits .or .u8 (Go.bits .or .u8 (md * 64 % 256) fx) bs)] ++ dispB dp wd := by
  obtain ⟨rfl, rfl⟩ := HE
  obtain ⟨rfl, rfl⟩ := HX
  obtain ⟨rfl, rfl⟩ := HE2
  obtain ⟨rfl, rfl⟩ := HE3
  obtain ⟨rfl, rfl⟩ := HE4
  obtain ⟨rfl, rfl, rfl⟩ := HE5
  subst HPB
  exact if_neg h
set_option maxHeartbeats 8000000 in
set_option maxRecDepth 100000 in
theorem putG_mem (reg k R base idx sc dp im md : Int) (wd : Nat) (w : World) (hT : 0 ≤ idx → TabAt w) (hreg : 0 ≤ reg ∧ reg ≤ 15) (hright : operand_Right.f 2 k R base idx sc dp false im = some true) (hk : k ≠ 1) (hform : operand_form.f 1 k R base idx sc dp false im = some (md, (wd : Int))) (hwd : wd ≤ 4) (hsc : 0 ≤ idx → sc = 1 ∨ sc = 2 ∨ sc = 4 ∨ sc = 8) :
    Calls Tryd.prog 9 #[.int .i64 reg, .agg #[.int .u8 k, .int .i64 R, .int .i64 base, .int .i64 idx, .int .i64 sc, .int .i64 dp, .bool false, .int .i64 im]] w fun e w' => ∃ v0_ : Value, e = .returned (.tuple #[v0_, .int .u8 (putMR reg base idx), .int .i64 0]) ∧ Kd.R (Kd.int .u8) 5 w' w.heap.size (fun _ => True) v0_ (putMB reg base idx sc dp md wd) ∧ Below w.heap.size w w' := by
  have hu23 := Tryd.underlying23
  obtain ⟨PR, hPR⟩ : ∃ x, putMR reg base idx = x := ⟨_, rfl⟩
  obtain ⟨PB, hPB⟩ : ∃ x, putMB reg base idx sc dp md wd = x := ⟨_, rfl⟩
  rw [hPR, hPB]
  have HPR := Aside0.mk hPR
  have HPB := Aside0.mk hPB
  clear hPR hPB
  have HT := Aside0.mk hT
  have HRT := Aside0.mk hright
  have HK := Aside0.mk hk
  have HFO := Aside0.mk hform
  have HSC := Aside0.mk hsc
  have HWD := Aside0.mk hwd
  clear hT hright hk hform hsc hwd
  have e1 : decide (reg < 0) = false := decide_eq_false (by omega)
  have e2 : decide (15 < reg) = false := decide_eq_false (by omega)
  go_enter Tryd.func9, Tryd.ntmps9
  go_upto_region 1 with (fail)
  have b3 := World.alloc_heap_new w (.cells #[.int .u8 k, .int .i64 R, .int .i64 base, .int .i64 idx, .int .i64 sc, .int .i64 dp, .bool false, .int .i64 im] 23)
  have b4 := World.alloc_heap_new (w.alloc (.cells #[.int .u8 k, .int .i64 R, .int .i64 base, .int .i64 idx, .int .i64 sc, .int .i64 dp, .bool false, .int .i64 im] 23)) (.cells #[.slice none 0 0] 24)
  rw [World.size_alloc] at b4
  have b3' := (Below.heap_alloc (w.alloc (.cells #[.int .u8 k, .int .i64 R, .int .i64 base, .int .i64 idx, .int .i64 sc, .int .i64 dp, .bool false, .int .i64 im] 23)) (.cells #[.slice none 0 0] 24) _ (Array.getElem?_eq_some_iff.1 b3).1).trans b3
  have hbl : Below w.heap.size w ((w.alloc (.cells #[.int .u8 k, .int .i64 R, .int .i64 base, .int .i64 idx, .int .i64 sc, .int .i64 dp, .bool false, .int .i64 im] 23)).alloc (.cells #[.slice none 0 0] 24)) := bX_ (bX_ (Below.refl _ _) _) _
  have B3 := Aside0.mk b3'
  have B4 := Aside0.mk b4
  have HB := Aside0.mk hbl
  clear b3 b4 b3' hbl
  generalize (w.alloc (.cells #[.int .u8 k, .int .i64 R, .int .i64 base, .int .i64 idx, .int .i64 sc, .int .i64 dp, .bool false, .int .i64 im] 23)).alloc (.cells #[.slice none 0 0] 24) = w1 at *
  obtain ⟨⟨q0, q1, q2, q3, q4, q5, q6, q7⟩, -⟩ := rows8 B3.out
  go_upto_region 3 with (first | (go_at_call 15; refine (operand_Right.calls 2 k R base idx sc dp false im true w1 HRT.out).mono ?_; rintro e w2 ⟨rfl, hb2⟩))
  have B32 := Aside0.mk (blk_below B3.out hb2)
  have B42 := Aside0.mk (blk_below B4.out hb2)
  have HB2 := Aside0.mk (HB.out.trans (hb2.mono HB.out.size))
  clear B3 B4 HB hb2 q0 q1 q2 q3 q4 q5 q6 q7 e1 e2
  obtain ⟨fl, hfl⟩ : ∃ x, lowF reg = x := ⟨_, rfl⟩
  obtain ⟨fh, hfh⟩ : ∃ x, highF reg = x := ⟨_, rfl⟩
  have HLO : Aside0 (operand_low.f reg = some fl) := ⟨by rw [← hfl]; rfl⟩
  have HHI : Aside0 (operand_high.f reg = some fh) := ⟨by rw [← hfh]; rfl⟩
  go_upto_region 4 with (first | (go_at_call 23; refine (operand_low.calls reg fl w2 HLO.out).mono ?_; rintro e w3 ⟨rfl, n3, rfl⟩))
  go_upto_region 5 with (first | (go_at_call 24; refine (operand_high.calls reg fh _ HHI.out).mono ?_; rintro e w4 ⟨rfl, n4, rfl⟩))
  have B35 : Aside0 ((w2.drewN (n3 + n4)).heap[w.heap.size]? = some (.cells #[.int .u8 k, .int .i64 R, .int .i64 base, .int .i64 idx, .int .i64 sc, .int .i64 dp, .bool false, .int .i64 im] 23)) := ⟨B32.out⟩
  have B45 : Aside0 ((w2.drewN (n3 + n4)).heap[w.heap.size + 1]? = some (.cells #[.slice none 0 0] 24)) := ⟨B42.out⟩
  have HB5 : Aside0 (Below w.heap.size w (w2.drewN (n3 + n4))) := ⟨HB2.out.trans ⟨rfl, rfl, rfl, Nat.le_refl _, fun _ _ => rfl⟩⟩
  clear B32 B42 HB2
  generalize w2.drewN (n3 + n4) = w5 at *
  obtain ⟨⟨q0, q1, q2, q3, q4, q5, q6, q7⟩, -⟩ := rows8 B35.out
  obtain ⟨qb, zb⟩ := cell_of_block B45.out
  have hl1 : w.heap.size + 1 < w5.heap.size := blk_lt B45.out
  have hl0 : w.heap.size < w5.heap.size := blk_lt B35.out
  have ek : (k == 1) = false := beq_eq_false_iff_ne.mpr HK.out
  have HE := Aside0.mk (And.intro hfl hfh)
  clear hfl hfh HRT HLO HHI hreg
  obtain ⟨fx, hfx⟩ : ∃ x, fl * 8 % 256 = x := ⟨_, rfl⟩
  obtain ⟨rx, hrx⟩ : ∃ x, fh * 4 % 256 = x := ⟨_, rfl⟩
  rw [hfx, hrx]
  have HX := Aside0.mk (And.intro hfx hrx)
  clear hfx hrx
  go_upto_region 12 with (fail)
  go_upto_region 13 with (first | (go_at_call 26; refine (operand_form.calls 1 k R base idx sc dp false im md (wd : Int) w5 HFO.out).mono ?_; rintro e w6 ⟨rfl, hb6⟩))
  have B36 := Aside0.mk (blk_below B35.out hb6)
  have B46 := Aside0.mk (blk_below B45.out hb6)
  have HB6 := Aside0.mk (HB5.out.trans (hb6.mono HB5.out.size))
  clear B35 B45 HB5 hb6 q0 q1 q2 q3 q4 q5 q6 q7 qb zb hl1 hl0
  obtain ⟨⟨q0, q1, q2, q3, q4, q5, q6, q7⟩, -⟩ := rows8 B36.out
  go_upto_if 65 with (fail)
  obtain ⟨bl, hbl⟩ : ∃ x, lowF base = x := ⟨_, rfl⟩
  obtain ⟨bh, hbh⟩ : ∃ x, highF base = x := ⟨_, rfl⟩
  have HL2 : Aside0 (operand_low.f base = some bl) := ⟨by rw [← hbl]; rfl⟩
  have HH2 : Aside0 (operand_high.f base = some bh) := ⟨by rw [← hbh]; rfl⟩
  have HE2 := Aside0.mk (And.intro hbl hbh)
  clear hbl hbh
  go_cut [5, 11] from 14 to 73 (fun v5 v11 wc => v5 = .int .u8 (if 0 ≤ base then Go.bits .or .u8 rx bh else rx) ∧ v11 = .int .u8 (if 0 ≤ base then bl else 5) ∧ Aside0 (wc.heap[w.heap.size]? = some (.cells #[.int .u8 k, .int .i64 R, .int .i64 base, .int .i64 idx, .int .i64 sc, .int .i64 dp, .bool false, .int .i64 im] 23)) ∧ Aside0 (wc.heap[w.heap.size + 1]? = some (.cells #[.slice none 0 0] 24)) ∧ Aside0 (Below w.heap.size w wc))
  case first =>
    by_cases cb : 0 ≤ base
    · have eb : decide (0 ≤ base) = true := decide_eq_true cb
      have CB := Aside0.mk cb
      clear cb
      rw [eb]
      go_upto_region 15 with (fail)
      go_region_held3 (fun w' => w'.cell? ⟨w.heap.size, 2, none⟩ = some (.int .i64 base)) (go_keep) (first | (go_at_call 23; refine (operand_low.calls base bl _ HL2.out).mono ?_; rintro e w7 ⟨rfl, n7, rfl⟩) | (go_at_call 24; refine (operand_high.calls base bh _ HH2.out).mono ?_; rintro e w8 ⟨rfl, n8, rfl⟩))
      all_goals go_wp2
      all_goals go_meet
      all_goals rw [if_pos CB.out, if_pos CB.out]
      all_goals exact ⟨by rfl, by rfl, ⟨B36.out⟩, ⟨B46.out⟩, ⟨HB6.out.trans ⟨rfl, rfl, rfl, Nat.le_refl _, fun _ _ => rfl⟩⟩⟩
    · have eb : decide (0 ≤ base) = false := decide_eq_false cb
      have CB := Aside0.mk cb
      clear cb
      rw [eb]
      go_wp2_with fail
      go_meet
      case rel => rw [if_neg (show ¬ 0 ≤ base by have := CB.out; omega), if_neg (show ¬ 0 ≤ base by have := CB.out; omega)]; exact ⟨rfl, rfl, B36, B46, HB6⟩
  case rest =>
    obtain ⟨rfl, rfl, B37, B47, HB7⟩ := hcut
    generalize wc = w7 at *
    obtain ⟨r1, hr1⟩ : ∃ x, (if 0 ≤ base then Go.bits .or .u8 rx bh else rx) = x := ⟨_, rfl⟩
    obtain ⟨bs, hbs⟩ : ∃ x, (if 0 ≤ base then bl else (5 : Int)) = x := ⟨_, rfl⟩
    rw [hr1, hbs]
    have HE3 := Aside0.mk (And.intro hr1 hbs)
    clear hr1 hbs B36 B46 HB6 q0 q1 q2 q3 q4 q5 q6 q7 HL2 HH2
    obtain ⟨⟨q0, q1, q2, q3, q4, q5, q6, q7⟩, -⟩ := rows8 B37.out
    obtain ⟨il, hil⟩ : ∃ x, lowF idx = x := ⟨_, rfl⟩
    obtain ⟨ih, hih⟩ : ∃ x, highF idx = x := ⟨_, rfl⟩
    have HL3 : Aside0 (operand_low.f idx = some il) := ⟨by rw [← hil]; rfl⟩
    have HH3 : Aside0 (operand_high.f idx = some ih) := ⟨by rw [← hih]; rfl⟩
    have HE4 := Aside0.mk (And.intro hil hih)
    clear hil hih
    have HT7 : Aside0 (0 ≤ idx → ∀ n, TabAt (w7.drewN n)) := ⟨fun h n => (HT.out h).below (HB7.out.trans (show Below w.heap.size w7 (w7.drewN n) from ⟨rfl, rfl, rfl, Nat.le_refl _, fun _ _ => rfl⟩)) (HT.out h).lt⟩
    go_upto_if 76 with (fail)
    go_cut [5, 12, 13] from 14 to 89 (fun v5 v12 v13 wc => v5 = .int .u8 (if 0 ≤ idx then Go.bits .or .u8 r1 (IntKind.u8.wrap (ih * 2)) else r1) ∧ v12 = .int .u8 (if 0 ≤ idx then il else 4) ∧ v13 = .int .i64 (if 0 ≤ idx then tzN sc else 0) ∧ Aside0 (wc.heap[w.heap.size]? = some (.cells #[.int .u8 k, .int .i64 R, .int .i64 base, .int .i64 idx, .int .i64 sc, .int .i64 dp, .bool false, .int .i64 im] 23)) ∧ Aside0 (wc.heap[w.heap.size + 1]? = some (.cells #[.slice none 0 0] 24)) ∧ Aside0 (Below w.heap.size w wc))
    case first =>
      by_cases cb : 0 ≤ idx
      · have eb : decide (0 ≤ idx) = true := decide_eq_true cb
        have hs := HSC.out cb
        have HSS := Aside0.mk hs
        have esc : IntKind.u64.wrap sc = sc := by rcases hs with rfl | rfl | rfl | rfl <;> rfl
        have CB := Aside0.mk cb
        clear cb hs
        rw [eb]
        go_upto_region 17 with (fail)
        go_region_held3 (fun w' => w'.cell? ⟨w.heap.size, 3, none⟩ = some (.int .i64 idx) ∧ w'.cell? ⟨w.heap.size, 4, none⟩ = some (.int .i64 sc)) (go_keep) (first | (go_at_call 23; refine (operand_low.calls idx il _ HL3.out).mono ?_; rintro e w8 ⟨rfl, n8, rfl⟩) | (go_at_call 24; refine (operand_high.calls idx ih _ HH3.out).mono ?_; rintro e w9 ⟨rfl, n9, rfl⟩) | (go_at_call 27; refine (tz_calls sc HSS.out _ (HT7.out CB.out _)).mono ?_; rintro e w10 ⟨rfl, rfl⟩))
        all_goals go_wp2
        all_goals go_meet
        all_goals rw [if_pos CB.out, if_pos CB.out, if_pos CB.out]
        all_goals exact ⟨by rfl, by rfl, by rfl, ⟨B37.out⟩, ⟨B47.out⟩, ⟨HB7.out.trans ⟨rfl, rfl, rfl, Nat.le_refl _, fun _ _ => rfl⟩⟩⟩
      · have eb : decide (0 ≤ idx) = false := decide_eq_false cb
        have CB := Aside0.mk cb
        clear cb
        rw [eb]
        go_wp2_with fail
        go_meet
        case rel => rw [if_neg (show ¬ 0 ≤ idx by have := CB.out; omega), if_neg (show ¬ 0 ≤ idx by have := CB.out; omega), if_neg (show ¬ 0 ≤ idx by have := CB.out; omega)]; exact ⟨rfl, rfl, rfl, B37, B47, HB7⟩
    case rest =>
      obtain ⟨rfl, rfl, rfl, B38, B48, HB8⟩ := hcut
      generalize wc = w8 at *
      obtain ⟨r2, hr2⟩ : ∃ x, (if 0 ≤ idx then Go.bits .or .u8 r1 (IntKind.u8.wrap (ih * 2)) else r1) = x := ⟨_, rfl⟩
      obtain ⟨ix, hix⟩ : ∃ x, (if 0 ≤ idx then il else (4 : Int)) = x := ⟨_, rfl⟩
      obtain ⟨sca, hsca⟩ : ∃ x, (if 0 ≤ idx then tzN sc else (0 : Int)) = x := ⟨_, rfl⟩
      rw [hr2, hix, hsca]
      have HE5 := Aside0.mk (And.intro hr2 (And.intro hix hsca))
      clear hr2 hix hsca B37 B47 HB7 q0 q1 q2 q3 q4 q5 q6 q7 HL3 HH3
      obtain ⟨⟨q0, q1, q2, q3, q4, q5, q6, q7⟩, -⟩ := rows8 B38.out
      obtain ⟨qb, zb⟩ := cell_of_block B48.out
      have hl1 : w.heap.size + 1 < w8.heap.size := blk_lt B48.out
      have hl0 : w.heap.size < w8.heap.size := blk_lt B38.out
      go_upto_region 19 with (fail)
      have hk9 : Keeps (fun k => k = w.heap.size + 1) w8 ((w8.setCell ⟨w.heap.size + 1, 0, none⟩ (.slice (some ⟨w8.heap.size, 0, none⟩) 1 1)).alloc (.cells #[.int .u8 (Go.bits .or .u8 (Go.bits .or .u8 (md * 64 % 256) fx) bs)] 5)) := ((Keeps.refl (fun k => k = w.heap.size + 1) w8).setCell ⟨w.heap.size + 1, 0, none⟩ _ rfl).alloc _
      have B39w9 : Aside0 (((w8.setCell ⟨w.heap.size + 1, 0, none⟩ (.slice (some ⟨w8.heap.size, 0, none⟩) 1 1)).alloc (.cells #[.int .u8 (Go.bits .or .u8 (Go.bits .or .u8 (md * 64 % 256) fx) bs)] 5)).heap[w.heap.size]? = some (.cells #[.int .u8 k, .int .i64 R, .int .i64 base, .int .i64 idx, .int .i64 sc, .int .i64 dp, .bool false, .int .i64 im] 23)) := ⟨hk9.at_ B38.out (by omega)⟩
      have B49w9 : Aside0 (((w8.setCell ⟨w.heap.size + 1, 0, none⟩ (.slice (some ⟨w8.heap.size, 0, none⟩) 1 1)).alloc (.cells #[.int .u8 (Go.bits .or .u8 (Go.bits .or .u8 (md * 64 % 256) fx) bs)] 5)).heap[w.heap.size + 1]? = some (.cells #[.slice (some ⟨w8.heap.size, 0, none⟩) 1 1] 24)) := ⟨(Below.heap_alloc _ _ _ (by show _ < (w8.setCell _ _).heap.size; rw [World.size_setCell]; exact hl1)).trans (blk_store B48.out _)⟩
      have HB9w9 : Aside0 (Below w.heap.size w ((w8.setCell ⟨w.heap.size + 1, 0, none⟩ (.slice (some ⟨w8.heap.size, 0, none⟩) 1 1)).alloc (.cells #[.int .u8 (Go.bits .or .u8 (Go.bits .or .u8 (md * 64 % 256) fx) bs)] 5))) := ⟨HB8.out.trans (hk9.below (by omega) (fun k hk h => by omega))⟩
      have HS9w9 : Aside0 (w.heap.size + 2 ≤ ((w8.setCell ⟨w.heap.size + 1, 0, none⟩ (.slice (some ⟨w8.heap.size, 0, none⟩) 1 1)).alloc (.cells #[.int .u8 (Go.bits .or .u8 (Go.bits .or .u8 (md * 64 % 256) fx) bs)] 5)).heap.size) := ⟨by rw [World.size_alloc, World.size_setCell]; omega⟩
      have HO9w9 : Aside0 (((w8.setCell ⟨w.heap.size + 1, 0, none⟩ (.slice (some ⟨w8.heap.size, 0, none⟩) 1 1)).alloc (.cells #[.int .u8 (Go.bits .or .u8 (Go.bits .or .u8 (md * 64 % 256) fx) bs)] 5)).ownsRow (w.heap.size + 2) 5 1 (.slice (some ⟨w8.heap.size, 0, none⟩) 1 1) 1 (nums .u8 [(Go.bits .or .u8 (Go.bits .or .u8 (md * 64 % 256) fx) bs)])) := ⟨by
        have h := own_lit (w8.setCell ⟨w.heap.size + 1, 0, none⟩ (.slice (some ⟨w8.heap.size, 0, none⟩) 1 1)) (w.heap.size + 2) 5 .u8 [(Go.bits .or .u8 (Go.bits .or .u8 (md * 64 % 256) fx) bs)] (by rw [World.size_setCell]; omega) (show 1 ≤ 9223372036854775807 by decide)
        rw [World.size_setCell] at h
        exact h⟩
      clear hk9 B38 B48 HB8 q0 q1 q2 q3 q4 q5 q6 q7 qb zb hl1 hl0
      generalize w8.heap.size = g9 at *
      generalize ((w8.setCell ⟨w.heap.size + 1, 0, none⟩ (.slice (some ⟨g9, 0, none⟩) 1 1)).alloc (.cells #[.int .u8 (Go.bits .or .u8 (Go.bits .or .u8 (md * 64 % 256) fx) bs)] 5)) = w9 at *
      by_cases ci : 0 ≤ idx
      · have ei : decide (0 ≤ idx) = true := decide_eq_true ci
        clear ci
        obtain ⟨⟨q0, q1, q2, q3, q4, q5, q6, q7⟩, -⟩ := rows8 B39w9.out
        obtain ⟨qb, zb⟩ := cell_of_block B49w9.out
        have hl1 : w.heap.size + 1 < w9.heap.size := blk_lt B49w9.out
        have hl0 : w.heap.size < w9.heap.size := blk_lt B39w9.out
        go_upto_region 21 with (fail)
        have hk9 : Keeps (fun k => k = w.heap.size + 1) w9 ((w9.setCell ⟨w.heap.size + 1, 0, none⟩ (.slice (some ⟨w9.heap.size, 0, none⟩) 2 2)).alloc (.cells #[.int .u8 (Go.bits .or .u8 (Go.bits .or .u8 (md * 64 % 256) fx) 4), .int .u8 (Go.bits .or .u8 (Go.bits .or .u8 (sca % 256 * 64 % 256) (ix * 8 % 256)) bs)] 5)) := ((Keeps.refl (fun k => k = w.heap.size + 1) w9).setCell ⟨w.heap.size + 1, 0, none⟩ _ rfl).alloc _
        have B39w10 : Aside0 (((w9.setCell ⟨w.heap.size + 1, 0, none⟩ (.slice (some ⟨w9.heap.size, 0, none⟩) 2 2)).alloc (.cells #[.int .u8 (Go.bits .or .u8 (Go.bits .or .u8 (md * 64 % 256) fx) 4), .int .u8 (Go.bits .or .u8 (Go.bits .or .u8 (sca % 256 * 64 % 256) (ix * 8 % 256)) bs)] 5)).heap[w.heap.size]? = some (.cells #[.int .u8 k, .int .i64 R, .int .i64 base, .int .i64 idx, .int .i64 sc, .int .i64 dp, .bool false, .int .i64 im] 23)) := ⟨hk9.at_ B39w9.out (by omega)⟩
        have B49w10 : Aside0 (((w9.setCell ⟨w.heap.size + 1, 0, none⟩ (.slice (some ⟨w9.heap.size, 0, none⟩) 2 2)).alloc (.cells #[.int .u8 (Go.bits .or .u8 (Go.bits .or .u8 (md * 64 % 256) fx) 4), .int .u8 (Go.bits .or .u8 (Go.bits .or .u8 (sca % 256 * 64 % 256) (ix * 8 % 256)) bs)] 5)).heap[w.heap.size + 1]? = some (.cells #[.slice (some ⟨w9.heap.size, 0, none⟩) 2 2] 24)) := ⟨(Below.heap_alloc _ _ _ (by show _ < (w9.setCell _ _).heap.size; rw [World.size_setCell]; exact hl1)).trans (blk_store B49w9.out _)⟩
        have HB9w10 : Aside0 (Below w.heap.size w ((w9.setCell ⟨w.heap.size + 1, 0, none⟩ (.slice (some ⟨w9.heap.size, 0, none⟩) 2 2)).alloc (.cells #[.int .u8 (Go.bits .or .u8 (Go.bits .or .u8 (md * 64 % 256) fx) 4), .int .u8 (Go.bits .or .u8 (Go.bits .or .u8 (sca % 256 * 64 % 256) (ix * 8 % 256)) bs)] 5))) := ⟨HB9w9.out.trans (hk9.below (by omega) (fun k hk h => by omega))⟩
        have HS9w10 : Aside0 (w.heap.size + 2 ≤ ((w9.setCell ⟨w.heap.size + 1, 0, none⟩ (.slice (some ⟨w9.heap.size, 0, none⟩) 2 2)).alloc (.cells #[.int .u8 (Go.bits .or .u8 (Go.bits .or .u8 (md * 64 % 256) fx) 4), .int .u8 (Go.bits .or .u8 (Go.bits .or .u8 (sca % 256 * 64 % 256) (ix * 8 % 256)) bs)] 5)).heap.size) := ⟨by rw [World.size_alloc, World.size_setCell]; omega⟩
        have HO9w10 : Aside0 (((w9.setCell ⟨w.heap.size + 1, 0, none⟩ (.slice (some ⟨w9.heap.size, 0, none⟩) 2 2)).alloc (.cells #[.int .u8 (Go.bits .or .u8 (Go.bits .or .u8 (md * 64 % 256) fx) 4), .int .u8 (Go.bits .or .u8 (Go.bits .or .u8 (sca % 256 * 64 % 256) (ix * 8 % 256)) bs)] 5)).ownsRow (w.heap.size + 2) 5 1 (.slice (some ⟨w9.heap.size, 0, none⟩) 2 2) 2 (nums .u8 [(Go.bits .or .u8 (Go.bits .or .u8 (md * 64 % 256) fx) 4), (Go.bits .or .u8 (Go.bits .or .u8 (sca % 256 * 64 % 256) (ix * 8 % 256)) bs)])) := ⟨by
          have h := own_lit (w9.setCell ⟨w.heap.size + 1, 0, none⟩ (.slice (some ⟨w9.heap.size, 0, none⟩) 2 2)) (w.heap.size + 2) 5 .u8 [(Go.bits .or .u8 (Go.bits .or .u8 (md * 64 % 256) fx) 4), (Go.bits .or .u8 (Go.bits .or .u8 (sca % 256 * 64 % 256) (ix * 8 % 256)) bs)] (by rw [World.size_setCell]; omega) (show 2 ≤ 9223372036854775807 by decide)
          rw [World.size_setCell] at h
          exact h⟩
        clear hk9 B39w9 B49w9 HB9w9 q0 q1 q2 q3 q4 q5 q6 q7 qb zb hl1 hl0
        generalize w9.heap.size = g10 at *
        generalize ((w9.setCell ⟨w.heap.size + 1, 0, none⟩ (.slice (some ⟨g10, 0, none⟩) 2 2)).alloc (.cells #[.int .u8 (Go.bits .or .u8 (Go.bits .or .u8 (md * 64 % 256) fx) 4), .int .u8 (Go.bits .or .u8 (Go.bits .or .u8 (sca % 256 * 64 % 256) (ix * 8 % 256)) bs)] 5)) = w10 at *
        go_upto_region 22 with (first | (go_at_call 25; refine (number_calls (w.heap.size + 1) w.heap.size wd (w.heap.size + 2) (.slice (some ⟨g10, 0, none⟩) 2 2) [(Go.bits .or .u8 (Go.bits .or .u8 (md * 64 % 256) fx) 4), (Go.bits .or .u8 (Go.bits .or .u8 (sca % 256 * 64 % 256) (ix * 8 % 256)) bs)] _ _ _ _ _ _ _ dp w10 HWD.out (show 2 ≤ 100 by decide) B49w10.out B39w10.out HO9w10.out (by omega) (by omega) (by omega) HS9w10.out).mono ?_; rintro e wz ⟨⟨u, rfl⟩, v2, hb2, ho2, hk2⟩))
        obtain ⟨A2, c2, rfl⟩ := own_slice ho2
        have B2 := Aside0.mk hb2
        have O2 := Aside0.mk ho2
        have HBz : Aside0 (Below w.heap.size w wz) := ⟨HB9w10.out.trans (hk2.below HB9w10.out.size (fun k hk h => by omega))⟩
        clear hb2 ho2 hk2
        obtain ⟨qb, zb⟩ := cell_of_block B2.out
        have hq : w.heap.size + 2 ≤ wz.heap.size := by have := blk_lt B2.out; omega
        go_wp2_with fail
        obtain rfl := putMR_eq (sc := sc) HPR.out HE.out HX.out HE2.out HE3.out HE4.out HE5.out
        obtain rfl := putMB_long HPB.out HE.out HX.out HE2.out HE3.out HE4.out HE5.out (.inl (of_decide_eq_true ei))
        refine bodyPost_ret (results_put (blk_store B2.out _) rfl) rfl ⟨_, rfl, ?_, ?_⟩
        rotate_left
        · exact HBz.out.trans (Keeps.below ((Keeps.refl (fun k => k = w.heap.size + 1) wz).setCell ⟨w.heap.size + 1, 0, none⟩ _ rfl) (Nat.le_trans (Nat.le_add_right _ 2) hq) (fun k hk h => by omega))
        · have hle : ([(Go.bits .or .u8 (Go.bits .or .u8 (md * 64 % 256) fx) 4), (Go.bits .or .u8 (Go.bits .or .u8 (sca % 256 * 64 % 256) (ix * 8 % 256)) bs)] ++ dispB dp wd).length = 2 + wd := by simp [dispB]; try omega
          refine R_of_own (xs := [(Go.bits .or .u8 (Go.bits .or .u8 (md * 64 % 256) fx) 4), (Go.bits .or .u8 (Go.bits .or .u8 (sca % 256 * 64 % 256) (ix * 8 % 256)) bs)] ++ dispB dp wd) ?_
          rw [hle]
          exact own_weaken (own_setCell O2.out (p := ⟨w.heap.size + 1, 0, none⟩) (fun e => absurd (own_base O2.out _ e.symm) (Nat.not_le.2 (Nat.lt_succ_self _))) _) (Nat.le_add_right _ _)
      · have ei : decide (0 ≤ idx) = false := decide_eq_false ci
        clear ci
        by_cases cb : base < 0
        · have eb : decide (base < 0) = true := decide_eq_true cb
          clear cb
          obtain ⟨⟨q0, q1, q2, q3, q4, q5, q6, q7⟩, -⟩ := rows8 B39w9.out
          obtain ⟨qb, zb⟩ := cell_of_block B49w9.out
          have hl1 : w.heap.size + 1 < w9.heap.size := blk_lt B49w9.out
          have hl0 : w.heap.size < w9.heap.size := blk_lt B39w9.out
          go_upto_region 21 with (fail)
          have hk9 : Keeps (fun k => k = w.heap.size + 1) w9 ((w9.setCell ⟨w.heap.size + 1, 0, none⟩ (.slice (some ⟨w9.heap.size, 0, none⟩) 2 2)).alloc (.cells #[.int .u8 (Go.bits .or .u8 (Go.bits .or .u8 (md * 64 % 256) fx) 4), .int .u8 (Go.bits .or .u8 (Go.bits .or .u8 (sca % 256 * 64 % 256) (ix * 8 % 256)) bs)] 5)) := ((Keeps.refl (fun k => k = w.heap.size + 1) w9).setCell ⟨w.heap.size + 1, 0, none⟩ _ rfl).alloc _
          have B39w10 : Aside0 (((w9.setCell ⟨w.heap.size + 1, 0, none⟩ (.slice (some ⟨w9.heap.size, 0, none⟩) 2 2)).alloc (.cells #[.int .u8 (Go.bits .or .u8 (Go.bits .or .u8 (md * 64 % 256) fx) 4), .int .u8 (Go.bits .or .u8 (Go.bits .or .u8 (sca % 256 * 64 % 256) (ix * 8 % 256)) bs)] 5)).heap[w.heap.size]? = some (.cells #[.int .u8 k, .int .i64 R, .int .i64 base, .int .i64 idx, .int .i64 sc, .int .i64 dp, .bool false, .int .i64 im] 23)) := ⟨hk9.at_ B39w9.out (by omega)⟩
          have B49w10 : Aside0 (((w9.setCell ⟨w.heap.size + 1, 0, none⟩ (.slice (some ⟨w9.heap.size, 0, none⟩) 2 2)).alloc (.cells #[.int .u8 (Go.bits .or .u8 (Go.bits .or .u8 (md * 64 % 256) fx) 4), .int .u8 (Go.bits .or .u8 (Go.bits .or .u8 (sca % 256 * 64 % 256) (ix * 8 % 256)) bs)] 5)).heap[w.heap.size + 1]? = some (.cells #[.slice (some ⟨w9.heap.size, 0, none⟩) 2 2] 24)) := ⟨(Below.heap_alloc _ _ _ (by show _ < (w9.setCell _ _).heap.size; rw [World.size_setCell]; exact hl1)).trans (blk_store B49w9.out _)⟩
          have HB9w10 : Aside0 (Below w.heap.size w ((w9.setCell ⟨w.heap.size + 1, 0, none⟩ (.slice (some ⟨w9.heap.size, 0, none⟩) 2 2)).alloc (.cells #[.int .u8 (Go.bits .or .u8 (Go.bits .or .u8 (md * 64 % 256) fx) 4), .int .u8 (Go.bits .or .u8 (Go.bits .or .u8 (sca % 256 * 64 % 256) (ix * 8 % 256)) bs)] 5))) := ⟨HB9w9.out.trans (hk9.below (by omega) (fun k hk h => by omega))⟩
          have HS9w10 : Aside0 (w.heap.size + 2 ≤ ((w9.setCell ⟨w.heap.size + 1, 0, none⟩ (.slice (some ⟨w9.heap.size, 0, none⟩) 2 2)).alloc (.cells #[.int .u8 (Go.bits .or .u8 (Go.bits .or .u8 (md * 64 % 256) fx) 4), .int .u8 (Go.bits .or .u8 (Go.bits .or .u8 (sca % 256 * 64 % 256) (ix * 8 % 256)) bs)] 5)).heap.size) := ⟨by rw [World.size_alloc, World.size_setCell]; omega⟩
          have HO9w10 : Aside0 (((w9.setCell ⟨w.heap.size + 1, 0, none⟩ (.slice (some ⟨w9.heap.size, 0, none⟩) 2 2)).alloc (.cells #[.int .u8 (Go.bits .or .u8 (Go.bits .or .u8 (md * 64 % 256) fx) 4), .int .u8 (Go.bits .or .u8 (Go.bits .or .u8 (sca % 256 * 64 % 256) (ix * 8 % 256)) bs)] 5)).ownsRow (w.heap.size + 2) 5 1 (.slice (some ⟨w9.heap.size, 0, none⟩) 2 2) 2 (nums .u8 [(Go.bits .or .u8 (Go.bits .or .u8 (md * 64 % 256) fx) 4), (Go.bits .or .u8 (Go.bits .or .u8 (sca % 256 * 64 % 256) (ix * 8 % 256)) bs)])) := ⟨by
            have h := own_lit (w9.setCell ⟨w.heap.size + 1, 0, none⟩ (.slice (some ⟨w9.heap.size, 0, none⟩) 2 2)) (w.heap.size + 2) 5 .u8 [(Go.bits .or .u8 (Go.bits .or .u8 (md * 64 % 256) fx) 4), (Go.bits .or .u8 (Go.bits .or .u8 (sca % 256 * 64 % 256) (ix * 8 % 256)) bs)] (by rw [World.size_setCell]; omega) (show 2 ≤ 9223372036854775807 by decide)
            rw [World.size_setCell] at h
            exact h⟩
          clear hk9 B39w9 B49w9 HB9w9 q0 q1 q2 q3 q4 q5 q6 q7 qb zb hl1 hl0
          generalize w9.heap.size = g10 at *
          generalize ((w9.setCell ⟨w.heap.size + 1, 0, none⟩ (.slice (some ⟨g10, 0, none⟩) 2 2)).alloc (.cells #[.int .u8 (Go.bits .or .u8 (Go.bits .or .u8 (md * 64 % 256) fx) 4), .int .u8 (Go.bits .or .u8 (Go.bits .or .u8 (sca % 256 * 64 % 256) (ix * 8 % 256)) bs)] 5)) = w10 at *
          go_upto_region 22 with (first | (go_at_call 25; refine (number_calls (w.heap.size + 1) w.heap.size wd (w.heap.size + 2) (.slice (some ⟨g10, 0, none⟩) 2 2) [(Go.bits .or .u8 (Go.bits .or .u8 (md * 64 % 256) fx) 4), (Go.bits .or .u8 (Go.bits .or .u8 (sca % 256 * 64 % 256) (ix * 8 % 256)) bs)] _ _ _ _ _ _ _ dp w10 HWD.out (show 2 ≤ 100 by decide) B49w10.out B39w10.out HO9w10.out (by omega) (by omega) (by omega) HS9w10.out).mono ?_; rintro e wz ⟨⟨u, rfl⟩, v2, hb2, ho2, hk2⟩))
          obtain ⟨A2, c2, rfl⟩ := own_slice ho2
          have B2 := Aside0.mk hb2
          have O2 := Aside0.mk ho2
          have HBz : Aside0 (Below w.heap.size w wz) := ⟨HB9w10.out.trans (hk2.below HB9w10.out.size (fun k hk h => by omega))⟩
          clear hb2 ho2 hk2
          obtain ⟨qb, zb⟩ := cell_of_block B2.out
          have hq : w.heap.size + 2 ≤ wz.heap.size := by have := blk_lt B2.out; omega
          go_wp2_with fail
          obtain rfl := putMR_eq (sc := sc) HPR.out HE.out HX.out HE2.out HE3.out HE4.out HE5.out
          obtain rfl := putMB_long HPB.out HE.out HX.out HE2.out HE3.out HE4.out HE5.out (.inr (.inl (of_decide_eq_true eb)))
          refine bodyPost_ret (results_put (blk_store B2.out _) rfl) rfl ⟨_, rfl, ?_, ?_⟩
          rotate_left
          · exact HBz.out.trans (Keeps.below ((Keeps.refl (fun k => k = w.heap.size + 1) wz).setCell ⟨w.heap.size + 1, 0, none⟩ _ rfl) (Nat.le_trans (Nat.le_add_right _ 2) hq) (fun k hk h => by omega))
          · have hle : ([(Go.bits .or .u8 (Go.bits .or .u8 (md * 64 % 256) fx) 4), (Go.bits .or .u8 (Go.bits .or .u8 (sca % 256 * 64 % 256) (ix * 8 % 256)) bs)] ++ dispB dp wd).length = 2 + wd := by simp [dispB]; try omega
            refine R_of_own (xs := [(Go.bits .or .u8 (Go.bits .or .u8 (md * 64 % 256) fx) 4), (Go.bits .or .u8 (Go.bits .or .u8 (sca % 256 * 64 % 256) (ix * 8 % 256)) bs)] ++ dispB dp wd) ?_
            rw [hle]
            exact own_weaken (own_setCell O2.out (p := ⟨w.heap.size + 1, 0, none⟩) (fun e => absurd (own_base O2.out _ e.symm) (Nat.not_le.2 (Nat.lt_succ_self _))) _) (Nat.le_add_right _ _)
        · have eb : decide (base < 0) = false := decide_eq_false cb
          clear cb
          by_cases c4 : bs = 4
          · have e4 : (bs == 4) = true := beq_iff_eq.mpr c4
            clear c4
            obtain ⟨⟨q0, q1, q2, q3, q4, q5, q6, q7⟩, -⟩ := rows8 B39w9.out
            obtain ⟨qb, zb⟩ := cell_of_block B49w9.out
            have hl1 : w.heap.size + 1 < w9.heap.size := blk_lt B49w9.out
            have hl0 : w.heap.size < w9.heap.size := blk_lt B39w9.out
            go_upto_region 21 with (fail)
            have hk9 : Keeps (fun k => k = w.heap.size + 1) w9 ((w9.setCell ⟨w.heap.size + 1, 0, none⟩ (.slice (some ⟨w9.heap.size, 0, none⟩) 2 2)).alloc (.cells #[.int .u8 (Go.bits .or .u8 (Go.bits .or .u8 (md * 64 % 256) fx) 4), .int .u8 (Go.bits .or .u8 (Go.bits .or .u8 (sca % 256 * 64 % 256) (ix * 8 % 256)) bs)] 5)) := ((Keeps.refl (fun k => k = w.heap.size + 1) w9).setCell ⟨w.heap.size + 1, 0, none⟩ _ rfl).alloc _
            have B39w10 : Aside0 (((w9.setCell ⟨w.heap.size + 1, 0, none⟩ (.slice (some ⟨w9.heap.size, 0, none⟩) 2 2)).alloc (.cells #[.int .u8 (Go.bits .or .u8 (Go.bits .or .u8 (md * 64 % 256) fx) 4), .int .u8 (Go.bits .or .u8 (Go.bits .or .u8 (sca % 256 * 64 % 256) (ix * 8 % 256)) bs)] 5)).heap[w.heap.size]? = some (.cells #[.int .u8 k, .int .i64 R, .int .i64 base, .int .i64 idx, .int .i64 sc, .int .i64 dp, .bool false, .int .i64 im] 23)) := ⟨hk9.at_ B39w9.out (by omega)⟩
            have B49w10 : Aside0 (((w9.setCell ⟨w.heap.size + 1, 0, none⟩ (.slice (some ⟨w9.heap.size, 0, none⟩) 2 2)).alloc (.cells #[.int .u8 (Go.bits .or .u8 (Go.bits .or .u8 (md * 64 % 256) fx) 4), .int .u8 (Go.bits .or .u8 (Go.bits .or .u8 (sca % 256 * 64 % 256) (ix * 8 % 256)) bs)] 5)).heap[w.heap.size + 1]? = some (.cells #[.slice (some ⟨w9.heap.size, 0, none⟩) 2 2] 24)) := ⟨(Below.heap_alloc _ _ _ (by show _ < (w9.setCell _ _).heap.size; rw [World.size_setCell]; exact hl1)).trans (blk_store B49w9.out _)⟩
            have HB9w10 : Aside0 (Below w.heap.size w ((w9.setCell ⟨w.heap.size + 1, 0, none⟩ (.slice (some ⟨w9.heap.size, 0, none⟩) 2 2)).alloc (.cells #[.int .u8 (Go.bits .or .u8 (Go.bits .or .u8 (md * 64 % 256) fx) 4), .int .u8 (Go.bits .or .u8 (Go.bits .or .u8 (sca % 256 * 64 % 256) (ix * 8 % 256)) bs)] 5))) := ⟨HB9w9.out.trans (hk9.below (by omega) (fun k hk h => by omega))⟩
            have HS9w10 : Aside0 (w.heap.size + 2 ≤ ((w9.setCell ⟨w.heap.size + 1, 0, none⟩ (.slice (some ⟨w9.heap.size, 0, none⟩) 2 2)).alloc (.cells #[.int .u8 (Go.bits .or .u8 (Go.bits .or .u8 (md * 64 % 256) fx) 4), .int .u8 (Go.bits .or .u8 (Go.bits .or .u8 (sca % 256 * 64 % 256) (ix * 8 % 256)) bs)] 5)).heap.size) := ⟨by rw [World.size_alloc, World.size_setCell]; omega⟩
            have HO9w10 : Aside0 (((w9.setCell ⟨w.heap.size + 1, 0, none⟩ (.slice (some ⟨w9.heap.size, 0, none⟩) 2 2)).alloc (.cells #[.int .u8 (Go.bits .or .u8 (Go.bits .or .u8 (md * 64 % 256) fx) 4), .int .u8 (Go.bits .or .u8 (Go.bits .or .u8 (sca % 256 * 64 % 256) (ix * 8 % 256)) bs)] 5)).ownsRow (w.heap.size + 2) 5 1 (.slice (some ⟨w9.heap.size, 0, none⟩) 2 2) 2 (nums .u8 [(Go.bits .or .u8 (Go.bits .or .u8 (md * 64 % 256) fx) 4), (Go.bits .or .u8 (Go.bits .or .u8 (sca % 256 * 64 % 256) (ix * 8 % 256)) bs)])) := ⟨by
              have h := own_lit (w9.setCell ⟨w.heap.size + 1, 0, none⟩ (.slice (some ⟨w9.heap.size, 0, none⟩) 2 2)) (w.heap.size + 2) 5 .u8 [(Go.bits .or .u8 (Go.bits .or .u8 (md * 64 % 256) fx) 4), (Go.bits .or .u8 (Go.bits .or .u8 (sca % 256 * 64 % 256) (ix * 8 % 256)) bs)] (by rw [World.size_setCell]; omega) (show 2 ≤ 9223372036854775807 by decide)
              rw [World.size_setCell] at h
              exact h⟩
            clear hk9 B39w9 B49w9 HB9w9 q0 q1 q2 q3 q4 q5 q6 q7 qb zb hl1 hl0
            generalize w9.heap.size = g10 at *
            generalize ((w9.setCell ⟨w.heap.size + 1, 0, none⟩ (.slice (some ⟨g10, 0, none⟩) 2 2)).alloc (.cells #[.int .u8 (Go.bits .or .u8 (Go.bits .or .u8 (md * 64 % 256) fx) 4), .int .u8 (Go.bits .or .u8 (Go.bits .or .u8 (sca % 256 * 64 % 256) (ix * 8 % 256)) bs)] 5)) = w10 at *
            go_upto_region 22 with (first | (go_at_call 25; refine (number_calls (w.heap.size + 1) w.heap.size wd (w.heap.size + 2) (.slice (some ⟨g10, 0, none⟩) 2 2) [(Go.bits .or .u8 (Go.bits .or .u8 (md * 64 % 256) fx) 4), (Go.bits .or .u8 (Go.bits .or .u8 (sca % 256 * 64 % 256) (ix * 8 % 256)) bs)] _ _ _ _ _ _ _ dp w10 HWD.out (show 2 ≤ 100 by decide) B49w10.out B39w10.out HO9w10.out (by omega) (by omega) (by omega) HS9w10.out).mono ?_; rintro e wz ⟨⟨u, rfl⟩, v2, hb2, ho2, hk2⟩))
            obtain ⟨A2, c2, rfl⟩ := own_slice ho2
            have B2 := Aside0.mk hb2
            have O2 := Aside0.mk ho2
            have HBz : Aside0 (Below w.heap.size w wz) := ⟨HB9w10.out.trans (hk2.below HB9w10.out.size (fun k hk h => by omega))⟩
            clear hb2 ho2 hk2
            obtain ⟨qb, zb⟩ := cell_of_block B2.out
            have hq : w.heap.size + 2 ≤ wz.heap.size := by have := blk_lt B2.out; omega
            go_wp2_with fail
            obtain rfl := putMR_eq (sc := sc) HPR.out HE.out HX.out HE2.out HE3.out HE4.out HE5.out
            obtain rfl := putMB_long HPB.out HE.out HX.out HE2.out HE3.out HE4.out HE5.out (.inr (.inr (beq_iff_eq.1 e4)))
            refine bodyPost_ret (results_put (blk_store B2.out _) rfl) rfl ⟨_, rfl, ?_, ?_⟩
            rotate_left
            · exact HBz.out.trans (Keeps.below ((Keeps.refl (fun k => k = w.heap.size + 1) wz).setCell ⟨w.heap.size + 1, 0, none⟩ _ rfl) (Nat.le_trans (Nat.le_add_right _ 2) hq) (fun k hk h => by omega))
            · have hle : ([(Go.bits .or .u8 (Go.bits .or .u8 (md * 64 % 256) fx) 4), (Go.bits .or .u8 (Go.bits .or .u8 (sca % 256 * 64 % 256) (ix * 8 % 256)) bs)] ++ dispB dp wd).length = 2 + wd := by simp [dispB]; try omega
              refine R_of_own (xs := [(Go.bits .or .u8 (Go.bits .or .u8 (md * 64 % 256) fx) 4), (Go.bits .or .u8 (Go.bits .or .u8 (sca % 256 * 64 % 256) (ix * 8 % 256)) bs)] ++ dispB dp wd) ?_
              rw [hle]
              exact own_weaken (own_setCell O2.out (p := ⟨w.heap.size + 1, 0, none⟩) (fun e => absurd (own_base O2.out _ e.symm) (Nat.not_le.2 (Nat.lt_succ_self _))) _) (Nat.le_add_right _ _)
          · have e4 : (bs == 4) = false := beq_eq_false_iff_ne.mpr c4
            clear c4
            obtain ⟨⟨q0, q1, q2, q3, q4, q5, q6, q7⟩, -⟩ := rows8 B39w9.out
            go_upto_region 21 with (fail)
            go_upto_region 22 with (first | (go_at_call 25; refine (number_calls (w.heap.size + 1) w.heap.size wd (w.heap.size + 2) (.slice (some ⟨g9, 0, none⟩) 1 1) [(Go.bits .or .u8 (Go.bits .or .u8 (md * 64 % 256) fx) bs)] _ _ _ _ _ _ _ dp w9 HWD.out (show 1 ≤ 100 by decide) B49w9.out B39w9.out HO9w9.out (by omega) (by omega) (by omega) HS9w9.out).mono ?_; rintro e wz ⟨⟨u, rfl⟩, v2, hb2, ho2, hk2⟩))
            obtain ⟨A2, c2, rfl⟩ := own_slice ho2
            have B2 := Aside0.mk hb2
            have O2 := Aside0.mk ho2
            have HBz : Aside0 (Below w.heap.size w wz) := ⟨HB9w9.out.trans (hk2.below HB9w9.out.size (fun k hk h => by omega))⟩
            clear hb2 ho2 hk2
            obtain ⟨qb, zb⟩ := cell_of_block B2.out
            have hq : w.heap.size + 2 ≤ wz.heap.size := by have := blk_lt B2.out; omega
            go_wp2_with fail
            obtain rfl := putMR_eq (sc := sc) HPR.out HE.out HX.out HE2.out HE3.out HE4.out HE5.out
            obtain rfl := putMB_short HPB.out HE.out HX.out HE2.out HE3.out HE4.out HE5.out (fun h => h.elim (of_decide_eq_false ei) (fun h => h.elim (of_decide_eq_false eb) (beq_eq_false_iff_ne.1 e4)))
            refine bodyPost_ret (results_put (blk_store B2.out _) rfl) rfl ⟨_, rfl, ?_, ?_⟩
            rotate_left
            · exact HBz.out.trans (Keeps.below ((Keeps.refl (fun k => k = w.heap.size + 1) wz).setCell ⟨w.heap.size + 1, 0, none⟩ _ rfl) (Nat.le_trans (Nat.le_add_right _ 2) hq) (fun k hk h => by omega))
            · have hle : ([(Go.bits .or .u8 (Go.bits .or .u8 (md * 64 % 256) fx) bs)] ++ dispB dp wd).length = 1 + wd := by simp [dispB]; try omega
              refine R_of_own (xs := [(Go.bits .or .u8 (Go.bits .or .u8 (md * 64 % 256) fx) bs)] ++ dispB dp wd) ?_
              rw [hle]
              exact own_weaken (own_setCell O2.out (p := ⟨w.heap.size + 1, 0, none⟩) (fun e => absurd (own_base O2.out _ e.symm) (Nat.not_le.2 (Nat.lt_succ_self _))) _) (Nat.le_add_right _ _)
end Go.Proofs.YtppeidopijnnlaaDoor.B
namespace Go.Proofs.YtppeidopijnnlaaDoor.B
open Go.RowKit Go.Proofs.YtppeidopijnnlaaDoorW.PrintWords Go.Proofs.YtppeidopijnnlaaDoorW.PrintMore Go.RF
set_option linter.unusedVariables false
set_option linter.unusedSimpArgs false
attribute [local go_sem] Oper.semAt_some
set_option maxHeartbeats 8000000 in
set_option maxRecDepth 100000 in
theorem putG_out (reg k R base idx sc dp im : Int) (rip : Bool) (w : World) (hno : reg < 0 ∨ 15 < reg) :
    Calls Tryd.prog 9 #[.int .i64 reg, .agg #[.int .u8 k, .int .i64 R, .int .i64 base, .int .i64 idx, .int .i64 sc, .int .i64 dp, .bool rip, .int .i64 im]] w fun e w' => ∃ v0_ : Value, e = .returned (.tuple #[v0_, .int .u8 0, .int .i64 2]) ∧ Kd.R (Kd.int .u8) 5 w' w.heap.size (fun _ => True) v0_ [] ∧ Below w.heap.size w w' := by
  have hu23 := Tryd.underlying23
  have b4 := World.alloc_heap_new (w.alloc (.cells #[.int .u8 k, .int .i64 R, .int .i64 base, .int .i64 idx, .int .i64 sc, .int .i64 dp, .bool rip, .int .i64 im] 23)) (.cells #[.slice none 0 0] 24)
  rw [World.size_alloc] at b4
  have hbl : Below w.heap.size w ((w.alloc (.cells #[.int .u8 k, .int .i64 R, .int .i64 base, .int .i64 idx, .int .i64 sc, .int .i64 dp, .bool rip, .int .i64 im] 23)).alloc (.cells #[.slice none 0 0] 24)) := bX_ (bX_ (Below.refl _ _) _) _
  have B4 := Aside0.mk b4
  have HB := Aside0.mk hbl
  clear b4 hbl
  by_cases hl : reg < 0
  · have e1 : decide (reg < 0) = true := decide_eq_true hl
    clear hno hl
    go_enter Tryd.func9, Tryd.ntmps9
    go_upto_region 1 with (fail)
    go_upto_region 2 with (fail)
    generalize (w.alloc (.cells #[.int .u8 k, .int .i64 R, .int .i64 base, .int .i64 idx, .int .i64 sc, .int .i64 dp, .bool rip, .int .i64 im] 23)).alloc (.cells #[.slice none 0 0] 24) = w1 at *
    obtain ⟨qb, zb⟩ := cell_of_block B4.out
    have hl1 : w.heap.size + 1 < w1.heap.size := blk_lt B4.out
    go_wp2_with fail
    refine bodyPost_ret (results_put (b := w.heap.size + 1) (blk_store (v := .slice none 0 0) B4.out _) rfl) rfl ⟨_, rfl, Kd.R_nil _ _ _ _ _, ?_⟩
    exact HB.out.trans (Keeps.below ((Keeps.refl (fun k => k = w.heap.size + 1) w1).setCell ⟨w.heap.size + 1, 0, none⟩ _ rfl) (by omega) (fun k hk h => by omega))
  · have e1 : decide (reg < 0) = false := decide_eq_false hl
    have e2 : decide (15 < reg) = true := decide_eq_true (by omega)
    clear hno hl
    go_enter Tryd.func9, Tryd.ntmps9
    go_upto_region 1 with (fail)
    go_upto_region 2 with (fail)
    generalize (w.alloc (.cells #[.int .u8 k, .int .i64 R, .int .i64 base, .int .i64 idx, .int .i64 sc, .int .i64 dp, .bool rip, .int .i64 im] 23)).alloc (.cells #[.slice none 0 0] 24) = w1 at *
    obtain ⟨qb, zb⟩ := cell_of_block B4.out
    have hl1 : w.heap.size + 1 < w1.heap.size := blk_lt B4.out
    go_wp2_with fail
    refine bodyPost_ret (results_put (b := w.heap.size + 1) (blk_store (v := .slice none 0 0) B4.out _) rfl) rfl ⟨_, rfl, Kd.R_nil _ _ _ _ _, ?_⟩
    exact HB.out.trans (Keeps.below ((Keeps.refl (fun k => k = w.heap.size + 1) w1).setCell ⟨w.heap.size + 1, 0, none⟩ _ rfl) (by omega) (fun k hk h => by omega))
set_option maxHeartbeats 8000000 in
set_option maxRecDepth 100000 in
theorem putG_not (reg k R base idx sc dp im : Int) (rip : Bool) (w : World) (hreg : 0 ≤ reg ∧ reg ≤ 15) (hright : operand_Right.f 2 k R base idx sc dp rip im = some false) :
    Calls Tryd.prog 9 #[.int .i64 reg, .agg #[.int .u8 k, .int .i64 R, .int .i64 base, .int .i64 idx, .int .i64 sc, .int .i64 dp, .bool rip, .int .i64 im]] w fun e w' => ∃ v0_ : Value, e = .returned (.tuple #[v0_, .int .u8 0, .int .i64 2]) ∧ Kd.R (Kd.int .u8) 5 w' w.heap.size (fun _ => True) v0_ [] ∧ Below w.heap.size w w' := by
  have hu23 := Tryd.underlying23
  have HRT := Aside0.mk hright
  clear hright
  have e1 : decide (reg < 0) = false := decide_eq_false (by omega)
  have e2 : decide (15 < reg) = false := decide_eq_false (by omega)
  go_enter Tryd.func9, Tryd.ntmps9
  go_upto_region 1 with (fail)
  have b3 := World.alloc_heap_new w (.cells #[.int .u8 k, .int .i64 R, .int .i64 base, .int .i64 idx, .int .i64 sc, .int .i64 dp, .bool rip, .int .i64 im] 23)
  have b4 := World.alloc_heap_new (w.alloc (.cells #[.int .u8 k, .int .i64 R, .int .i64 base, .int .i64 idx, .int .i64 sc, .int .i64 dp, .bool rip, .int .i64 im] 23)) (.cells #[.slice none 0 0] 24)
  rw [World.size_alloc] at b4
  have b3' := (Below.heap_alloc (w.alloc (.cells #[.int .u8 k, .int .i64 R, .int .i64 base, .int .i64 idx, .int .i64 sc, .int .i64 dp, .bool rip, .int .i64 im] 23)) (.cells #[.slice none 0 0] 24) _ (Array.getElem?_eq_some_iff.1 b3).1).trans b3
  have hbl : Below w.heap.size w ((w.alloc (.cells #[.int .u8 k, .int .i64 R, .int .i64 base, .int .i64 idx, .int .i64 sc, .int .i64 dp, .bool rip, .int .i64 im] 23)).alloc (.cells #[.slice none 0 0] 24)) := bX_ (bX_ (Below.refl _ _) _) _
  have B3 := Aside0.mk b3'
  have B4 := Aside0.mk b4
  have HB := Aside0.mk hbl
  clear b3 b4 b3' hbl
  generalize (w.alloc (.cells #[.int .u8 k, .int .i64 R, .int .i64 base, .int .i64 idx, .int .i64 sc, .int .i64 dp, .bool rip, .int .i64 im] 23)).alloc (.cells #[.slice none 0 0] 24) = w1 at *
  obtain ⟨⟨q0, q1, q2, q3, q4, q5, q6, q7⟩, -⟩ := rows8 B3.out
  go_upto_region 2 with (first | (go_at_call 15; refine (operand_Right.calls 2 k R base idx sc dp rip im false w1 HRT.out).mono ?_; rintro e w2 ⟨rfl, hb2⟩))
  have B42 := Aside0.mk (blk_below B4.out hb2)
  have HB2 := Aside0.mk (HB.out.trans (hb2.mono HB.out.size))
  clear B3 B4 HB hb2 q0 q1 q2 q3 q4 q5 q6 q7 e1 e2
  obtain ⟨qb, zb⟩ := cell_of_block B42.out
  have hl1 : w.heap.size + 1 < w2.heap.size := blk_lt B42.out
  go_wp2_with fail
  refine bodyPost_ret (results_put (b := w.heap.size + 1) (blk_store (v := .slice none 0 0) B42.out _) rfl) rfl ⟨_, rfl, Kd.R_nil _ _ _ _ _, ?_⟩
  exact HB2.out.trans (Keeps.below ((Keeps.refl (fun k => k = w.heap.size + 1) w2).setCell ⟨w.heap.size + 1, 0, none⟩ _ rfl) (by omega) (fun k hk h => by omega))
def formF (base dp : Int) : Int × Int := if base < 0 then (0, 4) else if dp = 0 ∧ lowF base ≠ 5 then (0, 0) else if wrap64 (IntKind.i8.wrap dp) = dp then (1, 1) else (2, 4)
theorem form_f (k R base idx sc dp im : Int) (rip : Bool) : operand_form.f 1 k R base idx sc dp rip im = some (formF base dp) := by
  unfold operand_form.f formF
  by_cases hb : base < 0
  · rw [if_pos hb, if_pos hb]
  rw [if_neg hb, if_neg hb]
  by_cases hd : dp = 0
  · rw [if_pos hd]
    simp only [operand_low.f, Option.bind_some, operand_form.j0]
    show (if (lowF base != 5) = true then _ else _) = _
    by_cases h5 : lowF base = 5
    · rw [if_neg (by simp [h5]), if_neg (show ¬ (dp = 0 ∧ lowF base ≠ 5) from fun h => h.2 h5)]
      by_cases hw : wrap64 (IntKind.i8.wrap dp) = dp
      · rw [if_pos hw, if_pos hw]
      · rw [if_neg hw, if_neg hw]
    · rw [if_pos (by simp [h5]), if_pos ⟨hd, h5⟩]
  · rw [if_neg hd, if_neg (show ¬ (dp = 0 ∧ lowF base ≠ 5) from fun h => hd h.1)]
    simp only [operand_form.j0, Bool.false_eq_true, if_false]
    by_cases hw : wrap64 (IntKind.i8.wrap dp) = dp
    · rw [if_pos hw, if_pos hw]
    · rw [if_neg hw, if_neg hw]
def rightF (k R base idx sc dp : Int) (rip : Bool) (im : Int) : Bool := (operand_Right.f 2 k R base idx sc dp rip im).getD false
theorem right_f (k R base idx sc dp : Int) (rip : Bool) (im : Int) : operand_Right.f 2 k R base idx sc dp rip im = some (rightF k R base idx sc dp rip im) := by
  have h : ∃ b, operand_Right.f 2 k R base idx sc dp rip im = some b := by
    have j : ∀ b, ∃ c, operand_Right.j0 2 b k R base idx sc dp rip im = some c := by
      intro b
      simp only [operand_Right.j0, operand_scaled.f]
      repeat' (first | exact ⟨_, rfl⟩ | split)
    unfold operand_Right.f
    simp only [operand_Reg.f, Option.bind_some]
    repeat' (first | exact ⟨_, rfl⟩ | exact j _ | split)
  obtain ⟨b, hb⟩ := h
  unfold rightF
  rw [hb]
  rfl
theorem and_pow (n : Int) (h0 : 1 ≤ n) (h1 : n ≤ 8) (h : Go.bits .and .i64 n (wrap64 (n - 1)) = 0) : n = 1 ∨ n = 2 ∨ n = 4 ∨ n = 8 := by
  have : n = 1 ∨ n = 2 ∨ n = 3 ∨ n = 4 ∨ n = 5 ∨ n = 6 ∨ n = 7 ∨ n = 8 := by omega
  rcases this with rfl | rfl | rfl | rfl | rfl | rfl | rfl | rfl
  · omega
  · omega
  · exact absurd h (by decide +kernel)
  · omega
  · exact absurd h (by decide +kernel)
  · exact absurd h (by decide +kernel)
  · exact absurd h (by decide +kernel)
  · omega
theorem and_pow' (n : Int) (h : n = 1 ∨ n = 2 ∨ n = 4 ∨ n = 8) : Go.bits .and .i64 n (wrap64 (n - 1)) = 0 := by
  rcases h with rfl | rfl | rfl | rfl <;> decide +kernel
def RightP (k R base idx sc dp : Int) (rip : Bool) (im : Int) : Prop :=
  (k = 1 ∧ 0 ≤ R ∧ R < 16 ∧ base = -1 ∧ idx = -1 ∧ sc = 0 ∧ dp = 0 ∧ rip = false ∧ im = 0) ∨
  (k = 2 ∧ R = 0 ∧ im = 0 ∧ wrap64 (wrap32 dp) = dp ∧
    ((rip = true ∧ base = -1 ∧ idx = -1 ∧ sc = 1) ∨
     (rip = false ∧ -1 ≤ base ∧ base < 16 ∧ -1 ≤ idx ∧ idx < 16 ∧ idx ≠ 4 ∧ (idx < 0 ∧ sc = 1 ∨ 0 ≤ idx ∧ (sc = 1 ∨ sc = 2 ∨ sc = 4 ∨ sc = 8)))))
theorem rightF_iff (k R base idx sc dp : Int) (rip : Bool) (im : Int) : rightF k R base idx sc dp rip im = true ↔ RightP k R base idx sc dp rip im := by
  have e : ∀ b, rightF k R base idx sc dp rip im = b ↔ operand_Right.f 2 k R base idx sc dp rip im = some b := fun b => by rw [right_f]; simp
  rw [e]
  unfold operand_Right.f RightP
  by_cases h1 : k = 1
  · subst h1
    simp only [operand_Reg.f, Option.bind_some, if_true]
    by_cases a : 0 ≤ R
    · by_cases b : R < 16
      · rw [if_pos a, if_pos b]
        simp
        constructor
        · rintro ⟨rfl, rfl, rfl, rfl, rfl, rfl⟩; exact ⟨a, b, rfl, rfl, rfl, rfl, rfl, rfl⟩
        · rintro ⟨-, -, h⟩; exact h
      · rw [if_pos a, if_neg b]; simp; omega
    · rw [if_neg a]; simp; omega
  rw [if_neg h1]
  by_cases h2 : k = 2
  · subst h2
    have jt : operand_Right.j0 2 true 2 R base idx sc dp rip im = some false := by simp only [operand_Right.j0, if_true]
    rw [if_pos rfl, jt]
    by_cases hR : R = 0
    · rw [if_pos hR]
      by_cases hi : im = 0
      · rw [if_pos hi]
        by_cases hd : wrap64 (wrap32 dp) = dp
        · have eb : (wrap64 (wrap32 dp) != dp) = false := by simp [hd]
          rw [eb]
          simp only [operand_Right.j0, operand_scaled.f, Bool.false_eq_true, if_false]
          cases rip
          · simp only [Bool.false_eq_true, if_false]
            by_cases a1 : base ≥ -1
            · by_cases a2 : base < 16
              · by_cases a3 : idx ≥ -1
                · by_cases a4 : idx < 16
                  · by_cases a5 : idx = 4
                    · rw [if_pos a1, if_pos a2, if_pos a3, if_pos a4, if_pos a5]; simp; omega
                    · rw [if_pos a1, if_pos a2, if_pos a3, if_pos a4, if_neg a5]
                      by_cases a6 : idx < 0
                      · rw [if_pos a6]; simp; omega
                      · rw [if_neg a6]
                        by_cases a7 : sc ≥ 1
                        · by_cases a8 : sc ≤ 8
                          · rw [if_pos a7, if_pos a8]
                            simp only [Option.bind_some, Option.some.injEq, beq_iff_eq]
                            constructor
                            · intro h
                              have := and_pow sc a7 a8 h
                              refine .inr ⟨trivial, hR, hi, hd, .inr ⟨trivial, a1, a2, a3, a4, a5, .inr ⟨by omega, this⟩⟩⟩
                            · rintro (⟨h, -⟩ | ⟨-, -, -, -, (⟨h, -⟩ | ⟨-, -, -, -, -, -, h⟩)⟩)
                              · exact absurd h (by decide)
                              · exact absurd h (by decide)
                              · exact and_pow' sc (by omega)
                          · rw [if_pos a7, if_neg a8]; simp; omega
                        · rw [if_neg a7]; simp; omega
                  · rw [if_pos a1, if_pos a2, if_pos a3, if_neg a4]; simp; omega
                · rw [if_pos a1, if_pos a2, if_neg a3]; simp; omega
              · rw [if_pos a1, if_neg a2]; simp; omega
            · rw [if_neg a1]; simp; omega
          · simp only [if_true]
            by_cases a1 : base = -1
            · by_cases a2 : idx = -1
              · rw [if_pos a1, if_pos a2]; simp; omega
              · rw [if_pos a1, if_neg a2]; simp; omega
            · rw [if_neg a1]; simp; omega
        · have eb : (wrap64 (wrap32 dp) != dp) = true := by simp [hd]
          rw [eb, jt]; simp [hd]
      · rw [if_neg hi]; simp [hi]
    · rw [if_neg hR]; simp [hR]
  · rw [if_neg h2]
    have jt : operand_Right.j0 2 true k R base idx sc dp rip im = some false := by simp only [operand_Right.j0, if_true]
    rw [jt]
    simp [h1, h2]
end Go.Proofs.YtppeidopijnnlaaDoor.B
namespace Go.Proofs.YtppeidopijnnlaaDoor.B
open Go.RowKit Go.Proofs.YtppeidopijnnlaaDoorW.PrintWords Go.Proofs.YtppeidopijnnlaaDoorW.PrintMore Go.RF
set_option linter.unusedVariables false
set_option linter.unusedSimpArgs false
def putF (reg k R base idx sc dp : Int) (rip : Bool) (im : Int) : List Int × Int × Int :=
  if 0 ≤ reg ∧ reg ≤ 15 ∧ rightF k R base idx sc dp rip im = true then
    if k = 1 then ([Go.bits .or .u8 (Go.bits .or .u8 192 (lowF reg * 8 % 256)) (lowF R)], Go.bits .or .u8 (highF reg * 4 % 256) (highF R), 0)
    else if rip = true then ([Go.bits .or .u8 (lowF reg * 8 % 256) 5] ++ dispB dp 4, highF reg * 4 % 256, 0)
    else (putMB reg base idx sc dp (formF base dp).1 (formF base dp).2.toNat, putMR reg base idx, 0)
  else ([], 0, 2)
theorem formF_wd (base dp : Int) : ((formF base dp).2.toNat : Int) = (formF base dp).2 ∧ (formF base dp).2.toNat ≤ 4 := by
  unfold formF
  split
  · exact ⟨rfl, by decide⟩
  · split
    · exact ⟨rfl, by decide⟩
    · split
      · exact ⟨rfl, by decide⟩
      · exact ⟨rfl, by decide⟩
theorem put_calls (reg k R base idx sc dp : Int) (rip : Bool) (im : Int) (w : World) (hT : 0 ≤ idx → TabAt w) :
    Calls Tryd.prog 9 #[.int .i64 reg, .agg #[.int .u8 k, .int .i64 R, .int .i64 base, .int .i64 idx, .int .i64 sc, .int .i64 dp, .bool rip, .int .i64 im]] w fun e w' => ∃ v0_ : Value, e = .returned (.tuple #[v0_, .int .u8 (putF reg k R base idx sc dp rip im).2.1, .int .i64 (putF reg k R base idx sc dp rip im).2.2]) ∧ Kd.R (Kd.int .u8) 5 w' w.heap.size (fun _ => True) v0_ (putF reg k R base idx sc dp rip im).1 ∧ Below w.heap.size w w' := by
  by_cases h : 0 ≤ reg ∧ reg ≤ 15 ∧ rightF k R base idx sc dp rip im = true
  · have hr : operand_Right.f 2 k R base idx sc dp rip im = some true := by rw [right_f, h.2.2]
    have hP := (rightF_iff k R base idx sc dp rip im).1 h.2.2
    unfold putF
    rw [if_pos h]
    by_cases hk : k = 1
    · rw [if_pos hk]
      exact putG_reg reg k R base idx sc dp im rip w ⟨h.1, h.2.1⟩ hr hk
    · rw [if_neg hk]
      cases rip
      · rw [if_neg (by decide)]
        have hw := formF_wd base dp
        refine putG_mem reg k R base idx sc dp im (formF base dp).1 (formF base dp).2.toNat w hT ⟨h.1, h.2.1⟩ hr hk ?_ hw.2 ?_
        · rw [form_f, hw.1]
        · intro hi
          unfold RightP at hP
          simp only [Bool.false_eq_true, false_and, false_or, true_and] at hP
          omega
      · rw [if_pos rfl]
        exact putG_rip reg k R base idx sc dp im w ⟨h.1, h.2.1⟩ hr hk
  · unfold putF
    rw [if_neg h]
    by_cases hreg : 0 ≤ reg ∧ reg ≤ 15
    · refine putG_not reg k R base idx sc dp im rip w hreg ?_
      rw [right_f]
      cases hb : rightF k R base idx sc dp rip im
      · rfl
      · exact absurd ⟨hreg.1, hreg.2, hb⟩ h
    · exact putG_out reg k R base idx sc dp im rip w (by omega)
end Go.Proofs.YtppeidopijnnlaaDoor.B
