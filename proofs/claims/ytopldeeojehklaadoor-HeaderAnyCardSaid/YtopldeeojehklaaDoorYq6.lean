/- header.laid: so many bytes with numbers put into fields. header.Segment, header.Section: their bytes. -/
import Derived.Test.YtopldeeojehklaaDoorYq5
import Derived.Laws.CopyRow
import Derived.Laws.CopyOwn
namespace Go.Proofs.YtopldeeojehklaaDoor.B
open Go.RowKit Go.Proofs.YtopldeeojehklaaDoorW.PrintWords Go.Proofs.YtopldeeojehklaaDoorW.PrintMore Go.RF
set_option linter.unusedVariables false
set_option linter.unusedSimpArgs false
attribute [local go_sem] Oper.semAt_some
attribute [local go_sem] max2_int min2_int max_two min_two
theorem run_bin {P : Program} {o : Oper} {ρ : Operand → Value} {op : BinOp} {t yt : TypeId} {x y : Operand} {a b v : Value} {w : World} (ho : o.op = .binOp op t x y yt) (hx : ρ x = a) (hy : ρ y = b)
    (hg : (eqGuard op t x y a b).run P w = .ok () w) (h : (binOp op t a b).run P w = .ok v w) : (execOp ρ o).run P w = .ok (.value v) w := by
  unfold execOp
  simp only [ho, hx, hy, Sem.run_bind, hg, h, Result.andThen_ok, Sem.run_pure]
theorem run_load {P : Program} {o : Oper} {ρ : Operand → Value} {t : TypeId} {x : Operand} {a v : Value} {w : World} (ho : o.op = .load t x) (hx : ρ x = a) (h : (Instr.loadAt t a).run P w = .ok v w) : (execOp ρ o).run P w = .ok (.value v) w := by
  unfold execOp
  simp only [ho, hx, Sem.run_bind, h, Result.andThen_ok, Sem.run_pure]
theorem run_indexAddr {P : Program} {o : Oper} {ρ : Operand → Value} {t : TypeId} {x y : Operand} {a b v : Value} {w : World} (ho : o.op = .indexAddr t x y) (hx : ρ x = a) (hy : ρ y = b) (h : (Instr.indexAt t a b).run P w = .ok v w) : (execOp ρ o).run P w = .ok (.value v) w := by
  unfold execOp
  simp only [ho, hx, hy, Sem.run_bind, h, Result.andThen_ok, Sem.run_pure]
theorem addz (g k : Nat) : (⟨g, 0, none⟩ : Addr).add k = ⟨g, k, none⟩ := by
  unfold Addr.add
  split
  · rename_i h; rw [h]
  · simp
theorem run_slice2 {o : Oper} {ρ : Operand → Value} {x y z : Operand} {a b c v : Value} {w : World} (ho : o.op = .slice 22 x (some y) (some z) none) (hx : ρ x = a) (hy : ρ y = b) (hz : ρ z = c) (h : (Instr.slice 22 a (some b) (some c) none).run Tryd.prog w = .ok v w) :
    (execOp ρ o).run Tryd.prog w = .ok (.value v) w := by
  have hu : Tryd.prog.underlying 22 = some (.slice (Tryd.prog.elem 22)) := by kernel_rfl
  unfold execOp
  simp only [ho, Option.map_some, Option.map_none, hx, hy, hz, Sem.run_bind, run_sliceAt_slice _ _ _ _ _ _ hu, h, Result.andThen_ok, Sem.run_pure]
theorem slice_at (g n : Nat) (f : Nat × Nat) (h : 1 ≤ f.2 ∧ f.2 ≤ 8 ∧ f.1 + f.2 ≤ n) (W : World) :
    (Instr.slice 22 (.slice (some ⟨g, 0, none⟩) n n) (some (.int .i64 (f.1 : Int))) (some (.int .i64 ((f.1 : Int) + (f.2 : Int)))) none).run Tryd.prog W = .ok (.slice (some ⟨g, f.1, none⟩) f.2 (n - f.1)) W := by
  rw [slice_field _ n n f h (Nat.le_refl _) W, addz]
theorem index_u64 (ad : Addr) (n c i : Nat) (hi : i < n) (W : World) : (Instr.indexAt 53 (.slice (some ad) n c) (.int .i64 (i : Int))).run Tryd.prog W = .ok (.pointer (some (ad.add i))) W := by
  have hu := Tryd.underlying53
  have hu23 := Tryd.underlying23
  have h1 : (0 : Int) ≤ (i : Int) := by omega
  have h2 : (i : Int) < (n : Int) := by omega
  go_simp
theorem load_cell {W : World} {ad : Addr} {t : TypeId} {k : IntKind} {x : Int} (hu : Tryd.prog.underlying t = some (.int k)) (h : W.cell? ad = some (.int k x)) : (Instr.loadAt t (.pointer (some ad))).run Tryd.prog W = .ok (.int k x) W := by
  have ha : (isAgg t).run Tryd.prog W = .ok false W := by unfold isAgg; rw [Sem.run_bind, run_underlying hu]; rfl
  go_simp
theorem add_i {x y : Int} (h0 : 0 ≤ x + y) (h1 : x + y < 1000000000) (w : World) : (binOp .add 3 (.int .i64 x) (.int .i64 y)).run Tryd.prog w = .ok (.int .i64 (x + y)) w := by
  have e : IntKind.i64.wrap (x + y) = x + y := by rw [IntKind.wrap_i64]; omega
  simp [binOp, Op.intArith, e]
theorem run_copy8 {o : Oper} {ρ : Operand → Value} {x y : Operand} {w : World} {g at_ n dc sc : Nat} {ad : Addr} {L B : List Int} (ho : o.op = .call { callee := .builtin .copy, args := #[x, y], argTypes := #[22, 22] })
    (hx : ρ x = .slice (some ⟨g, at_, none⟩) n dc) (hy : ρ y = .slice (some ad) n sc) (hg : w.heap[g]? = some (.cells (nums .u8 L).toArray 5 (0, 0))) (hB : B.length = n) (hs : ∀ j, j < n → w.cell? (ad.add j) = some (.int .u8 (B.getD j 0))) (hfit : at_ + n ≤ L.length) :
    (execOp ρ o).run Tryd.prog w = .ok (.value (goInt n)) (w.setRow g (nums .u8 (splice L at_ B)).toArray) := by
  have hu : Tryd.prog.underlying 22 = some (.slice 5) := by kernel_rfl
  have hsz : (Tryd.prog.info? 5).map (·.size) = some 1 := by kernel_rfl
  have hl : (nums .u8 B).length = n := by simp [nums, hB]
  have h := run_copy_row (P := Tryd.prog) w 22 22 o.type 5 g at_ n dc ad n sc (nums .u8 L).toArray 5 (nums .u8 B) hu hsz hg (by rw [hl]; exact (Nat.min_self n).symm) (fun j v hv => by
    have hj := (List.getElem?_eq_some_iff.1 hv).1
    rw [hl] at hj
    rw [hs j hj, ← hv]
    unfold nums
    rw [List.getElem?_map, List.getD_eq_getElem?_getD, List.getElem?_eq_getElem (by omega)]
    rfl) (by rw [hl]; simp [nums]; omega) (fun v hv => by
      unfold nums at hv
      obtain ⟨a, _, rfl⟩ := List.mem_map.1 hv
      rfl)
  have e : (((nums .u8 L).toArray.toList.take at_ ++ nums .u8 B ++ (nums .u8 L).toArray.toList.drop (at_ + (nums .u8 B).length)).toArray) = (nums .u8 (splice L at_ B)).toArray := by
    simp [nums, splice]
  rw [e, hl] at h
  unfold execOp
  simp [ho, resolve, invoke, builtin, hx, hy, h, Result.andThen]
def laidL (size : Nat) (F : List (Nat × Nat)) (V : List Int) : Nat → List Int
  | 0 => List.replicate size 0
  | i + 1 => splice (laidL size F V i) (F.getD i (0, 0)).1 (bytesN (V.getD i 0) (F.getD i (0, 0)).2)
theorem laidL_len {size : Nat} {F : List (Nat × Nat)} (V : List Int) (h : Within F size) : ∀ i, i ≤ F.length → (laidL size F V i).length = size
  | 0, _ => by simp [laidL]
  | i + 1, hi => by
    unfold laidL
    have hm : F.getD i (0, 0) ∈ F := by
      rw [List.getD_eq_getElem?_getD, List.getElem?_eq_getElem (by omega)]
      exact List.getElem_mem _
    have := h _ hm
    rw [length_splice _ _ _ (by rw [bytesN_length, laidL_len V h i (by omega)]; omega), laidL_len V h i (by omega)]
def LdS (w0 : World) (gb g9 : Nat) (f : Nat × Nat) (vd : Addr) (i : Nat) (x : Int) (w : World) : Prop :=
  w.heap[g9]? = some (.cells #[.int .i64 (f.1 : Int), .int .i64 (f.2 : Int)] 57 (0, 0)) ∧ w.cell? (vd.add i) = some (.int .u64 x) ∧ Below w0.heap.size w0 w ∧ gb < w.heap.size
theorem LdS.met {w0 : World} {gb g9 i : Nat} {f : Nat × Nat} {vd : Addr} {x : Int} {w w' : World} (h : LdS w0 gb g9 f vd i x w) (hb : Below w.heap.size w w') : LdS w0 gb g9 f vd i x w' :=
  ⟨heap_below hb h.1, pw_cell_below hb h.2.1, below_step h.2.2.1 hb, Nat.lt_of_lt_of_le h.2.2.2 hb.size⟩
def LdE (w0 : World) (gb g9 : Nat) (f : Nat × Nat) (vd : Addr) (i : Nat) (x : Int) (L : List Int) (k : Nat → Bool) (ch : Nat × Nat) (w : World) : Prop :=
  LdS w0 gb g9 f vd i x w ∧ w.heap[gb]? = some (.cells (nums .u8 (bif k 16 then splice L f.1 (bytesN x f.2) else L)).toArray 5 (0, 0)) ∧
  (k 15 = true → k 16 = false → gb < ch.1 ∧ ∀ j, j < f.2 → w.cell? ((⟨ch.1, 0, none⟩ : Addr).add j) = some (.int .u8 ((bytesN x f.2).getD j 0)))
theorem own_cells {w : World} {base n : Nat} {v : Value} {B : List Int} (h : w.ownsRow base 5 1 v n (nums .u8 B)) (hn : 1 ≤ n) (hB : B.length = n) :
    ∃ g c, v = .slice (some ⟨g, 0, none⟩) n c ∧ base ≤ g ∧ ∀ j, j < n → w.cell? ((⟨g, 0, none⟩ : Addr).add j) = some (.int .u8 (B.getD j 0)) := by
  rcases h.2 with ⟨-, h0⟩ | ⟨g, cap, cur, rfl, hg, hh, h1, h2, h3, h4⟩
  · omega
  · refine ⟨g, cap, rfl, hg, fun j hj => ?_⟩
    rw [addz, bC_ hh]
    have e : cur.toList[j]? = (nums .u8 B)[j]? := by rw [← h4, List.getElem?_take, if_pos (by omega)]
    have e2 : cur[j]? = cur.toList[j]? := by simp
    rw [e2, e]
    unfold nums
    rw [List.getElem?_map, List.getD_eq_getElem?_getD, List.getElem?_eq_getElem (by omega)]
    rfl
theorem cell_setRow {w : World} {g : Nat} {p : Addr} (cs : Array Value) (h : p.block ≠ g) : (w.setRow g cs).cell? p = w.cell? p := by
  unfold World.cell?
  rw [setRow_other w g p.block cs h]
theorem MakeOwn_run (sz : Nat) (h : sz ≤ 1000000) (W : World) : (Instr.makeSlice 22 (.int .i64 (sz : Int)) (.int .i64 (sz : Int))).run Tryd.prog W = .ok (.slice (some ⟨W.heap.size, 0, none⟩) sz sz) (W.alloc (.cells (nums .u8 (List.replicate sz 0)).toArray 5)) := by
  obtain ⟨i0, hi0, hzz⟩ := Option.map_eq_some_iff.1 infoB
  simp only [Prod.mk.injEq] at hzz
  obtain ⟨hz0, hz1, hz2⟩ := hzz
  have hu : Tryd.prog.underlying 22 = some (.slice 5) := by kernel_rfl
  have h1 : (i0.bytes : Int) * (sz : Int) ≤ 281474976710656 := by rw [hz2]; omega
  have := run_make (P := Tryd.prog) W 22 5 i0 _ hu hi0 hz0 .i64 .i64 (sz : Int) (sz : Int) (by omega) (by omega) h1 (by omega)
  rw [this, hz1]
  have hl : (madeCells #[Value.int .u8 0] sz) = (nums .u8 (List.replicate sz 0)).toArray := by
    apply Array.ext
    · simp [nums, madeCells]
    · intro i h1 h2
      simp [nums, madeCells, Nat.mod_one]
  have e1 : ((sz : Int)).toNat = sz := by omega
  rw [e1, Nat.mul_one, show (Value.int .u8 0).cells = #[Value.int .u8 0] from rfl, hl]
def Rw (b : Nat) (v : Value) (L : List Int) (w : World) : Prop := ∃ gq, v = .slice (some ⟨gq, 0, none⟩) L.length L.length ∧ b ≤ gq ∧ w.heap[gq]? = some (.cells (nums .u8 L).toArray 5 (0, 0)) ∧ L.length ≤ 1000000
theorem Rw.own {b : Nat} {v : Value} {L : List Int} {w : World} (h : Rw b v L w) : w.ownsRow b 5 1 v L.length (nums .u8 L) := by
  obtain ⟨gq, rfl, hg, hh, hl⟩ := h
  refine ⟨by simp [nums], .inr ⟨gq, L.length, _, rfl, hg, hh, Nat.le_refl _, by unfold maxLen; omega, by simp [nums], ?_⟩⟩
  rw [List.take_of_length_le (by simp [nums])]
theorem Rw.met {b : Nat} {v : Value} {L : List Int} {w w' : World} (h : Rw b v L w) (hb : Below w.heap.size w w') : Rw b v L w' := by
  obtain ⟨gq, e, hg, hh, hl⟩ := h
  exact ⟨gq, e, hg, heap_below hb hh, hl⟩
theorem Rw.mono {b b' : Nat} {v : Value} {L : List Int} {w : World} (h : Rw b v L w) (hb : b' ≤ b) : Rw b' v L w := by
  obtain ⟨gq, e, hg, hh, hl⟩ := h
  exact ⟨gq, e, Nat.le_trans hb hg, hh, hl⟩
set_option maxHeartbeats 8000000 in
set_option maxRecDepth 100000 in
theorem laid_calls (sz g : Nat) (F : List (Nat × Nat)) (vd : Addr) (vc : Nat) (V : List Int) (w : World) (hF : FTab w g F) (hV : ∀ j, j < V.length → w.cell? (vd.add j) = some (.int .u64 (V.getD j 0))) (hn : V.length = F.length)
    (hw : Within F sz) (hm : F.length ≤ 100) (hsz : sz ≤ 1000000) (hg : g < w.heap.size) (hvb : vd.block < w.heap.size) :
    Calls Tryd.prog 32 #[.int .i64 (sz : Int), .slice (some ⟨g, 0, none⟩) F.length F.length, .slice (some vd) V.length vc] w fun e w' => ∃ v, e = .returned v ∧ Rw w.heap.size v (laidL sz F V F.length) w' ∧ Below w.heap.size w w' := by
  have HF := Aside0.mk hF
  have HVV := Aside0.mk hV
  have HW := Aside0.mk hw
  have HSZ := Aside0.mk hsz
  obtain ⟨n, hnn⟩ : ∃ n, F.length = n := ⟨_, rfl⟩
  have HN := Aside0.mk hnn
  rw [hnn] at hn hm
  rw [hnn]
  have HVN := Aside0.mk hn
  have hms := fun W => MakeOwn_run sz hsz W
  have hu57 := Tryd.underlying57
  clear hF hV hn hw hnn
  go_enter Tryd.func32, Tryd.ntmps32
  go_wp2_with fail
  have hb0 : Below w.heap.size w (w.alloc (.cells (nums .u8 (List.replicate sz 0)).toArray 5)) := bX_ (Below.refl _ _) _
  have hg0 := World.alloc_heap_new w (.cells (nums .u8 (List.replicate sz 0)).toArray 5)
  generalize w.alloc (.cells (nums .u8 (List.replicate sz 0)).toArray 5) = w1 at *
  obtain ⟨gb, hgb⟩ : ∃ gb, w.heap.size = gb := ⟨_, rfl⟩
  have HGB := Aside0.mk (show w.heap.size ≤ gb by omega)
  rw [hgb] at hg0 hvb hg
  have HGE := Aside0.mk hgb
  (try rw [hgb])
  have HB0 := Aside0.mk hb0
  have HG0 := Aside0.mk hg0
  have HVB := Aside0.mk (show vd.block < gb from hvb)
  clear hms hb0 hg0 hgb
  go_loopw [14] (fun v wr => ∃ i : Nat, i ≤ n ∧ v = .int .i64 (i : Int) ∧ wr.heap[gb]? = some (.cells (nums .u8 (laidL sz F V i)).toArray 5 (0, 0)) ∧ Below w.heap.size w wr) (fun v _ => ((n : Int) - intOf v).toNat)
  case atStart => exact ⟨0, by omega, rfl, HG0.out, HB0.out⟩
  case round =>
    obtain ⟨i, hi, rfl, hL, hb⟩ := hrel
    have HLB := Aside0.mk hL
    have HB := Aside0.mk hb
    clear hL hb
    by_cases hin : i < n
    · have hf : F[i]? = some (F.getD i (0, 0)) := by rw [List.getD_eq_getElem?_getD, List.getElem?_eq_getElem (by rw [HN.out]; exact hin)]; rfl
      have hq := HF.out i _ hf
      have hwf := HW.out _ (List.mem_of_getElem? hf)
      have q0 := pw_cell_below HB.out hq.1
      have q1 := pw_cell_below HB.out hq.2
      have hv := pw_cell_below HB.out (HVV.out i (by rw [HVN.out]; exact hin))
      have hll := laidL_len V HW.out i (by rw [HN.out]; omega)
      have hls : laidL sz F V (i + 1) = splice (laidL sz F V i) (F.getD i (0, 0)).1 (bytesN (V.getD i 0) (F.getD i (0, 0)).2) := rfl
      generalize F.getD i (0, 0) = f at *
      generalize V.getD i 0 = x at *
      generalize hLL : laidL sz F V i = L at *
      have HWF := Aside0.mk hwf
      have HLL := Aside0.mk hll
      have HLS := Aside0.mk hls
      have HXV := Aside0.mk hv
      have e1 : decide ((i : Int) < (n : Int)) = true := decide_eq_true (by omega)
      have hix := fun W => index_field g n i hin W
      clear hf hq hwf hll hls hLL hv
      go_upto_region 5 with (fail)
      clear q0 q1 hix
      have hb2 : Below wr.heap.size wr (wr.alloc (.cells #[.int .i64 (f.1 : Int), .int .i64 (f.2 : Int)] 57)) := bX_ (Below.refl _ _) _
      have hn2 := World.alloc_heap_new wr (.cells #[.int .i64 (f.1 : Int), .int .i64 (f.2 : Int)] 57)
      have hgl : gb < wr.heap.size := (Array.getElem?_eq_some_iff.1 HLB.out).1
      have HS5 : Aside0 (LdS w gb wr.heap.size f vd i x (wr.alloc (.cells #[.int .i64 (f.1 : Int), .int .i64 (f.2 : Int)] 57)) ∧ (wr.alloc (.cells #[.int .i64 (f.1 : Int), .int .i64 (f.2 : Int)] 57)).heap[gb]? = some (.cells (nums .u8 L).toArray 5 (0, 0))) :=
        ⟨⟨hn2, pw_cell_below hb2 HXV.out, below_step HB.out hb2, Nat.lt_of_lt_of_le hgl hb2.size⟩, heap_below hb2 HLB.out⟩
      have HGG := Aside0.mk hgl
      generalize wr.alloc (.cells #[.int .i64 (f.1 : Int), .int .i64 (f.2 : Int)] 57) = w5 at *
      generalize wr.heap.size = g9 at *
      clear hb2 hn2 hgl HLB HB HXV
      refine RS.wp_choice (C := Nat × Nat) (by kernel_rfl) (fun ch => (34, .slice (some ⟨ch.1, 0, none⟩) f.2 ch.2) :: [(19, .slice (some ⟨gb, 0, none⟩) sz sz), (20, .pointer (some ⟨g9, 0, none⟩)), (21, .int .i64 (f.1 : Int)), (22, .pointer (some ⟨g9, 0, none⟩)), (23, .int .i64 (f.1 : Int)), (24, .pointer (some ⟨g9, 1, none⟩)), (25, .int .i64 (f.2 : Int)), (26, .int .i64 ((f.1 : Int) + (f.2 : Int))), (27, .slice (some ⟨gb, f.1, none⟩) f.2 (sz - f.1)), (28, .slice (some vd) V.length vc), (29, .int .i64 (i : Int)), (30, .pointer (some (vd.add i))), (31, .int .u64 x), (32, .pointer (some ⟨g9, 1, none⟩)), (33, .int .i64 (f.2 : Int)), (35, goInt (f.2 : Nat))]) (LdE w gb g9 f vd i x L) (by kernel_rfl) (fun ch => by kernel_rfl) (0, 0) (fun k hk => ?_) ?_ ?_
      · exact ⟨⟨HS5.out.1.1, HS5.out.1.2.1, bY_ HS5.out.1.2.2.1, HS5.out.1.2.2.2⟩, by rw [hk 16 (by decide)]; exact HS5.out.2, fun e => (by rw [hk 15 (by decide)] at e; cases e)⟩
      · exact ⟨RS.StepC.of (fun ch => RS.StepE.pure 19 (by kernel_rfl) rfl (fun w => by kernel_rfl) (fun f w h => h)),
          RS.StepC.of (fun ch => RS.StepE.pure 20 (by kernel_rfl) rfl (fun w => by kernel_rfl) (fun f w h => h)),
          RS.StepC.of (fun ch => RS.StepE.load 21 (.int .i64 (f.1 : Int)) (by kernel_rfl) (by kernel_rfl) rfl (fun f w h => h) (fun k w p1 p2 h => run_load rfl (by kernel_rfl) (load_cell (k := .i64) Tryd.underlying3 ((bC_ h.1.1 0).trans rfl)))),
          RS.StepC.of (fun ch => RS.StepE.pure 22 (by kernel_rfl) rfl (fun w => by kernel_rfl) (fun f w h => h)),
          RS.StepC.of (fun ch => RS.StepE.load 23 (.int .i64 (f.1 : Int)) (by kernel_rfl) (by kernel_rfl) rfl (fun f w h => h) (fun k w p1 p2 h => run_load rfl (by kernel_rfl) (load_cell (k := .i64) Tryd.underlying3 ((bC_ h.1.1 0).trans rfl)))),
          RS.StepC.of (fun ch => RS.StepE.pure 24 (by kernel_rfl) rfl (fun w => by kernel_rfl) (fun f w h => h)),
          RS.StepC.of (fun ch => RS.StepE.load 25 (.int .i64 (f.2 : Int)) (by kernel_rfl) (by kernel_rfl) rfl (fun f w h => h) (fun k w p1 p2 h => run_load rfl (by kernel_rfl) (load_cell (k := .i64) Tryd.underlying3 ((bC_ h.1.1 1).trans rfl)))),
          RS.StepC.of (fun ch => RS.StepE.load 26 (.int .i64 ((f.1 : Int) + (f.2 : Int))) (by kernel_rfl) (by kernel_rfl) rfl (fun f w h => h) (fun k w p1 p2 h => run_bin rfl (by kernel_rfl) (by kernel_rfl) (by kernel_rfl) (add_i (by omega) (by have := HWF.out; omega) w))),
          RS.StepC.of (fun ch => RS.StepE.load 27 (.slice (some ⟨gb, f.1, none⟩) f.2 (sz - f.1)) (by kernel_rfl) (by kernel_rfl) rfl (fun f w h => h) (fun k w p1 p2 h => run_slice2 rfl (by kernel_rfl) (by kernel_rfl) (by kernel_rfl) (slice_at gb sz f HWF.out w))),
          RS.StepC.of (fun ch => RS.StepE.pure 28 (by kernel_rfl) rfl (fun w => by kernel_rfl) (fun f w h => h)),
          RS.StepC.of (fun ch => RS.StepE.pure 29 (by kernel_rfl) rfl (fun w => by kernel_rfl) (fun f w h => h)),
          RS.StepC.of (fun ch => RS.StepE.load 30 (.pointer (some (vd.add i))) (by kernel_rfl) (by kernel_rfl) rfl (fun f w h => h) (fun k w p1 p2 h => run_indexAddr rfl (by kernel_rfl) (by kernel_rfl) (index_u64 vd V.length vc i (by have := HVN.out; omega) w))),
          RS.StepC.of (fun ch => RS.StepE.load 31 (.int .u64 x) (by kernel_rfl) (by kernel_rfl) rfl (fun f w h => h) (fun k w p1 p2 h => run_load rfl (by kernel_rfl) (load_cell (k := .u64) Tryd.underlying23 (h.1.2.1)))),
          RS.StepC.of (fun ch => RS.StepE.pure 32 (by kernel_rfl) rfl (fun w => by kernel_rfl) (fun f w h => h)),
          RS.StepC.of (fun ch => RS.StepE.load 33 (.int .i64 (f.2 : Int)) (by kernel_rfl) (by kernel_rfl) rfl (fun f w h => h) (fun k w p1 p2 h => run_load rfl (by kernel_rfl) (load_cell (k := .i64) Tryd.underlying3 ((bC_ h.1.1 1).trans rfl)))),
          RS.StepC.chooseCall 33 (fun ch => #[.int .u64 x, .int .i64 (f.2 : Int)]) (fun ch => by kernel_rfl) (fun ch w => by kernel_rfl) (fun k ch w h0 p1 p2 h => by
            have h0 : k 15 = false := h0
            have e16 : k 16 = false := p2 16 (by kernel_rfl) (by decide)
            refine (Bytes_calls x f.2 HWF.out.1 HWF.out.2.1 w).mono ?_
            rintro e w' ⟨v, rfl, ho, hb⟩
            obtain ⟨gq, cq, rfl, hgq, hcq⟩ := own_cells ho HWF.out.1 (bytesN_length _ _)
            refine ⟨_, (gq, cq), rfl, fun d hd => by cases hd; kernel_rfl, RS.Agree.slot (n := 15) (k := 34) (md := .any) (by kernel_rfl) rfl rfl h0 (fun d hne => RS.sets_but _ _ 34 _ _ d hne), h.1.met hb, ?_, fun _ _ => ⟨by have := h.1.2.2.2; omega, hcq⟩⟩
            exact heap_below hb h.2.1),
          RS.StepC.of (fun ch => RS.StepE.event (goInt (f.2 : Nat)) (by intro d hd; cases hd; kernel_rfl) (by kernel_rfl) (fun k w h0 p1 p2 h => by
            have h0 : k 16 = false := h0
            have e15 : k 15 = true := p1 15 (by kernel_rfl)
            obtain ⟨hS, hL, hB⟩ := h
            obtain ⟨hx, hc⟩ := hB e15 h0
            rw [h0] at hL
            refine ⟨_, .inl (run_copy8 (ad := ⟨ch.1, 0, none⟩) (dc := sz - f.1) (sc := ch.2) (L := L) (B := bytesN x f.2) rfl (by kernel_rfl) (by kernel_rfl) hL (bytesN_length _ _) hc (by rw [HLL.out]; exact HWF.out.2.2)), ?_, ?_, fun _ e => by cases e⟩
            · obtain ⟨s1, s2, s3, s4⟩ := hS
              have hne : g9 ≠ gb := by have := HGG.out; omega
              refine ⟨(setRow_other w gb g9 _ hne).trans s1, (cell_setRow _ (by have := HVB.out; rw [block_add]; omega)).trans s2, below_setRow s3 HGB.out _, by simpa [World.setRow] using s4⟩
            · exact setRow_heap w gb _ _ 5 (0, 0) hL)), trivial⟩
      rintro k ch w6 hk hs
      (try simp only [RS.sets, List.setIfInBounds_toArray, List.set_cons_zero, List.set_cons_succ])
      obtain ⟨hs1, hs2, -⟩ := hs
      rw [hk] at hs2
      have HS6 := Aside0.mk hs1
      have HL6 := Aside0.mk hs2
      clear hs1 hs2 HS5
      go_wp2_with fail
      go_roundw
      case rel => exact ⟨i + 1, by omega, by go_num, by rw [HLS.out]; exact HL6.out, HS6.out.2.2.1⟩
      case measure => simp [intOf]; omega
    · have hie : n = i := by omega
      subst hie
      have e1 : decide ((n : Int) < (n : Int)) = false := decide_eq_false (by omega)
      go_wp2
      go_ret
      have hl := laidL_len V HW.out n (by rw [HN.out]; exact Nat.le_refl _)
      exact ⟨_, rfl, ⟨gb, by rw [hl]; rfl, HGB.out, HLB.out, by rw [hl]; exact HSZ.out⟩, HB.out⟩
end Go.Proofs.YtopldeeojehklaaDoor.B
namespace Go.Proofs.YtopldeeojehklaaDoor.B
open Go.RowKit Go.Proofs.YtopldeeojehklaaDoorW.PrintWords Go.Proofs.YtopldeeojehklaaDoorW.PrintMore Go.RF
set_option linter.unusedVariables false
set_option linter.unusedSimpArgs false
attribute [local go_sem] Oper.semAt_some
attribute [local go_sem] max2_int min2_int max_two min_two
def placesF : List (Nat × Nat) := [(24, 8), (32, 8), (40, 8), (56, 2), (60, 2), (54, 2), (58, 2)]
def segF : List (Nat × Nat) := [(0, 4), (4, 4), (8, 8), (16, 8), (32, 8), (40, 8), (48, 8)]
def secF : List (Nat × Nat) := [(4, 4), (24, 8), (32, 8), (40, 4), (56, 8)]
def mustV : Array Value := #[.int .i64 4, .int .i64 1, .int .u64 2, .int .i64 5, .int .i64 1, .int .u64 1, .int .i64 6, .int .i64 1, .int .u64 1, .int .i64 16, .int .i64 2, .int .u64 2, .int .i64 18, .int .i64 2, .int .u64 62, .int .i64 20, .int .i64 4, .int .u64 1, .int .i64 48, .int .i64 4, .int .u64 0, .int .i64 52, .int .i64 2, .int .u64 64]
def MustB (w : World) : Prop := ∃ tt fr, w.heap[1]? = some (.cells mustV tt fr)
def Tab (w : World) : Prop := FTab w 0 placesF ∧ MustB w ∧ FTab w 2 segF ∧ FTab w 3 secF ∧ 4 ≤ w.heap.size
theorem FTab.below {w w' : World} {g : Nat} {F : List (Nat × Nat)} (h : FTab w g F) (hb : Below w.heap.size w w') : FTab w' g F := fun i f hf => ⟨pw_cell_below hb (h i f hf).1, pw_cell_below hb (h i f hf).2⟩
theorem Tab.below {w w' : World} (h : Tab w) (hb : Below w.heap.size w w') : Tab w' :=
  ⟨h.1.below hb, let ⟨tt, fr, hm⟩ := h.2.1; ⟨tt, fr, heap_below hb hm⟩, h.2.2.1.below hb, h.2.2.2.1.below hb, Nat.le_trans h.2.2.2.2 hb.size⟩
theorem FTab.drew {w : World} {g : Nat} {F : List (Nat × Nat)} (h : FTab w g F) : FTab { w with drawn := w.drawn + 1 } g F := h
theorem row_cells {w : World} {g : Nat} {V : List Int} (h : w.heap[g]? = some (.cells (nums .u64 V).toArray 23 (0, 0))) (j : Nat) (hj : j < V.length) : w.cell? ((⟨g, 0, none⟩ : Addr).add j) = some (.int .u64 (V.getD j 0)) := by
  rw [addz, bC_ h]
  unfold nums
  rw [List.getElem?_toArray, List.getElem?_map, List.getD_eq_getElem?_getD, List.getElem?_eq_getElem hj]
  rfl
def PutE (w0 : World) (g1 s0 t1 ib ic g : Nat) (C : Array Value) (F : List (Nat × Nat)) (sz : Nat) (V : List Int) (k : Nat → Bool) (ch : Value) (w : World) : Prop :=
  w.heap[g1]? = some (.cells C t1 (0, 0)) ∧ Below w0.heap.size w0 w ∧ FTab w g F ∧ w0.heap.size ≤ s0 ∧ (k ib = false → w.heap.size = s0) ∧ (k ib = true → w.heap[s0]? = some (.cells (nums .u64 V).toArray 23 (0, 0))) ∧
  (k ic = true → Rw w0.heap.size ch (laidL sz F V F.length) w) ∧ g < w.heap.size
theorem segW : Within segF 56 := by unfold Within segF; decide
theorem secW : Within secF 64 := by unfold Within secF; decide
theorem plaW : Within placesF 64 := by unfold Within placesF; decide
set_option maxHeartbeats 8000000 in
set_option maxRecDepth 100000 in
theorem segment_calls (a0 a1 a2 a3 a4 a5 a6 : Int) (w : World) (hT : Tab w) : Calls Tryd.prog 16 #[.agg #[.int .u32 a0, .int .u32 a1, .int .u64 a2, .int .u64 a3, .int .u64 a4, .int .u64 a5, .int .u64 a6]] w fun e w' => ∃ v, e = .returned v ∧ Rw w.heap.size v (laidL 56 segF [IntKind.u64.wrap a0, IntKind.u64.wrap a1, a2, a3, a4, a5, a6] 7) w' ∧ Below w.heap.size w w' := by
  have hb : Below w.heap.size w (w.alloc (.cells #[.int .u32 a0, .int .u32 a1, .int .u64 a2, .int .u64 a3, .int .u64 a4, .int .u64 a5, .int .u64 a6] 30)) := bX_ (Below.refl _ _) _
  have hs : Aside0 ((w.alloc (.cells #[.int .u32 a0, .int .u32 a1, .int .u64 a2, .int .u64 a3, .int .u64 a4, .int .u64 a5, .int .u64 a6] 30)).heap[w.heap.size]? = some (.cells #[.int .u32 a0, .int .u32 a1, .int .u64 a2, .int .u64 a3, .int .u64 a4, .int .u64 a5, .int .u64 a6] 30 (0, 0)) ∧ Below w.heap.size w (w.alloc (.cells #[.int .u32 a0, .int .u32 a1, .int .u64 a2, .int .u64 a3, .int .u64 a4, .int .u64 a5, .int .u64 a6] 30)) ∧ FTab (w.alloc (.cells #[.int .u32 a0, .int .u32 a1, .int .u64 a2, .int .u64 a3, .int .u64 a4, .int .u64 a5, .int .u64 a6] 30)) 2 segF ∧ w.heap.size ≤ w.heap.size + 1 ∧ (w.alloc (.cells #[.int .u32 a0, .int .u32 a1, .int .u64 a2, .int .u64 a3, .int .u64 a4, .int .u64 a5, .int .u64 a6] 30)).heap.size = w.heap.size + 1 ∧ 2 < (w.alloc (.cells #[.int .u32 a0, .int .u32 a1, .int .u64 a2, .int .u64 a3, .int .u64 a4, .int .u64 a5, .int .u64 a6] 30)).heap.size) :=
    ⟨World.alloc_heap_new w _, hb, FTab.below hT.2.2.1 hb, by omega, World.size_alloc _ _, by rw [World.size_alloc]; have := hT.2.2.2.2; omega⟩
  have HS := hs
  clear hs hb
  go_enter Tryd.func16, Tryd.ntmps16
  go_upto_region 1 with (fail)
  generalize w.alloc (.cells #[.int .u32 a0, .int .u32 a1, .int .u64 a2, .int .u64 a3, .int .u64 a4, .int .u64 a5, .int .u64 a6] 30) = w1 at *
  obtain ⟨g1, hg1⟩ : ∃ g1, w.heap.size = g1 := ⟨_, rfl⟩
  obtain ⟨s0, hs0⟩ : ∃ s0, w.heap.size + 1 = s0 := ⟨_, rfl⟩
  have HS : Aside0 (w1.heap[g1]? = some (.cells #[.int .u32 a0, .int .u32 a1, .int .u64 a2, .int .u64 a3, .int .u64 a4, .int .u64 a5, .int .u64 a6] 30 (0, 0)) ∧ Below w.heap.size w w1 ∧ FTab w1 2 segF ∧ w.heap.size ≤ s0 ∧ w1.heap.size = s0 ∧ 2 < w1.heap.size) := by rw [← hg1, ← hs0]; exact HS
  rw [hg1]
  clear hg1 hs0
  refine RS.wp_choice (C := Value) (by kernel_rfl) (fun ch => (21, ch) :: (2, ch) :: [(3, .slice (some ⟨2, 0, none⟩) 7 7), (4, .pointer (some ⟨g1, 0, none⟩)), (5, .int .u32 a0), (6, .int .u64 (IntKind.u64.wrap a0)), (7, .pointer (some ⟨g1, 1, none⟩)), (8, .int .u32 a1), (9, .int .u64 (IntKind.u64.wrap a1)), (10, .pointer (some ⟨g1, 2, none⟩)), (11, .int .u64 a2), (12, .pointer (some ⟨g1, 3, none⟩)), (13, .int .u64 a3), (14, .pointer (some ⟨g1, 4, none⟩)), (15, .int .u64 a4), (16, .pointer (some ⟨g1, 5, none⟩)), (17, .int .u64 a5), (18, .pointer (some ⟨g1, 6, none⟩)), (19, .int .u64 a6), (20, .slice (some ⟨s0, 0, none⟩) 7 7)]) (PutE w g1 s0 30 17 18 2 #[.int .u32 a0, .int .u32 a1, .int .u64 a2, .int .u64 a3, .int .u64 a4, .int .u64 a5, .int .u64 a6] segF 56 [IntKind.u64.wrap a0, IntKind.u64.wrap a1, a2, a3, a4, a5, a6]) (by kernel_rfl) (fun ch => by kernel_rfl) undef (fun k hk => ?_) ?_ ?_
  · exact ⟨HS.out.1, bY_ HS.out.2.1, HS.out.2.2.1, HS.out.2.2.2.1, fun _ => HS.out.2.2.2.2.1, fun e => (by rw [hk 17 (by decide)] at e; cases e), fun e => (by rw [hk 18 (by decide)] at e; cases e), HS.out.2.2.2.2.2⟩
  · exact ⟨RS.StepC.of (fun ch => RS.StepE.pure 3 (by kernel_rfl) rfl (fun w => by kernel_rfl) (fun f w h => h)),
      RS.StepC.of (fun ch => RS.StepE.pure 4 (by kernel_rfl) rfl (fun w => by kernel_rfl) (fun f w h => h)),
      RS.StepC.of (fun ch => RS.StepE.load 5 (.int .u32 a0) (by kernel_rfl) (by kernel_rfl) rfl (fun f w h => h) (fun k w p1 p2 h => run_load rfl (by kernel_rfl) (load_cell (k := .u32) Tryd.underlying28 ((bC_ h.1 0).trans rfl)))),
      RS.StepC.of (fun ch => RS.StepE.pure 6 (by kernel_rfl) rfl (fun w => by kernel_rfl) (fun f w h => h)),
      RS.StepC.of (fun ch => RS.StepE.pure 7 (by kernel_rfl) rfl (fun w => by kernel_rfl) (fun f w h => h)),
      RS.StepC.of (fun ch => RS.StepE.load 8 (.int .u32 a1) (by kernel_rfl) (by kernel_rfl) rfl (fun f w h => h) (fun k w p1 p2 h => run_load rfl (by kernel_rfl) (load_cell (k := .u32) Tryd.underlying28 ((bC_ h.1 1).trans rfl)))),
      RS.StepC.of (fun ch => RS.StepE.pure 9 (by kernel_rfl) rfl (fun w => by kernel_rfl) (fun f w h => h)),
      RS.StepC.of (fun ch => RS.StepE.pure 10 (by kernel_rfl) rfl (fun w => by kernel_rfl) (fun f w h => h)),
      RS.StepC.of (fun ch => RS.StepE.load 11 (.int .u64 a2) (by kernel_rfl) (by kernel_rfl) rfl (fun f w h => h) (fun k w p1 p2 h => run_load rfl (by kernel_rfl) (load_cell (k := .u64) Tryd.underlying23 ((bC_ h.1 2).trans rfl)))),
      RS.StepC.of (fun ch => RS.StepE.pure 12 (by kernel_rfl) rfl (fun w => by kernel_rfl) (fun f w h => h)),
      RS.StepC.of (fun ch => RS.StepE.load 13 (.int .u64 a3) (by kernel_rfl) (by kernel_rfl) rfl (fun f w h => h) (fun k w p1 p2 h => run_load rfl (by kernel_rfl) (load_cell (k := .u64) Tryd.underlying23 ((bC_ h.1 3).trans rfl)))),
      RS.StepC.of (fun ch => RS.StepE.pure 14 (by kernel_rfl) rfl (fun w => by kernel_rfl) (fun f w h => h)),
      RS.StepC.of (fun ch => RS.StepE.load 15 (.int .u64 a4) (by kernel_rfl) (by kernel_rfl) rfl (fun f w h => h) (fun k w p1 p2 h => run_load rfl (by kernel_rfl) (load_cell (k := .u64) Tryd.underlying23 ((bC_ h.1 4).trans rfl)))),
      RS.StepC.of (fun ch => RS.StepE.pure 16 (by kernel_rfl) rfl (fun w => by kernel_rfl) (fun f w h => h)),
      RS.StepC.of (fun ch => RS.StepE.load 17 (.int .u64 a5) (by kernel_rfl) (by kernel_rfl) rfl (fun f w h => h) (fun k w p1 p2 h => run_load rfl (by kernel_rfl) (load_cell (k := .u64) Tryd.underlying23 ((bC_ h.1 5).trans rfl)))),
      RS.StepC.of (fun ch => RS.StepE.pure 18 (by kernel_rfl) rfl (fun w => by kernel_rfl) (fun f w h => h)),
      RS.StepC.of (fun ch => RS.StepE.load 19 (.int .u64 a6) (by kernel_rfl) (by kernel_rfl) rfl (fun f w h => h) (fun k w p1 p2 h => run_load rfl (by kernel_rfl) (load_cell (k := .u64) Tryd.underlying23 ((bC_ h.1 6).trans rfl)))),
      RS.StepC.of (fun ch => RS.StepE.event (.slice (some ⟨s0, 0, none⟩) 7 7) (by intro d hd; cases hd; kernel_rfl) (by kernel_rfl) (fun k w h0 p1 p2 h => by
        have h0 : k 17 = false := h0
        have e1 : k 18 = false := p2 18 (by kernel_rfl) (by decide)
        obtain ⟨q1, q2, q3, q4, q5, q6, q7, q8⟩ := h
        have hz := q5 h0
        have hb : Below w.heap.size w (w.alloc (.cells (nums .u64 [IntKind.u64.wrap a0, IntKind.u64.wrap a1, a2, a3, a4, a5, a6]).toArray 23)) := bX_ (Below.refl _ _) _
        refine ⟨w.alloc (.cells (nums .u64 [IntKind.u64.wrap a0, IntKind.u64.wrap a1, a2, a3, a4, a5, a6]).toArray 23), .inl ?_, heap_below hb q1, below_step q2 hb, q3.below hb, q4, fun e => (by cases e), fun _ => (by rw [← hz]; exact World.alloc_heap_new w _), fun e => (by have e : k 18 = true := e; rw [e1] at e; cases e), Nat.lt_of_lt_of_le q8 hb.size⟩
        rw [← hz]
        kernel_rfl)),
      RS.StepC.chooseCall 32 (fun ch => #[.int .i64 56, .slice (some ⟨2, 0, none⟩) 7 7, .slice (some ⟨s0, 0, none⟩) 7 7]) (fun ch => by kernel_rfl) (fun ch w => by kernel_rfl) (fun k ch w h0 p1 p2 h => by
        have h0 : k 18 = false := h0
        have eb : k 17 = true := p1 17 (by kernel_rfl)
        obtain ⟨q1, q2, q3, q4, q5, q6, q7, q8⟩ := h
        have hrow := q6 eb
        refine (laid_calls 56 2 segF ⟨s0, 0, none⟩ 7 [IntKind.u64.wrap a0, IntKind.u64.wrap a1, a2, a3, a4, a5, a6] w q3 (row_cells hrow) rfl segW (by decide) (by decide) q8 (Array.getElem?_eq_some_iff.1 hrow).1).mono ?_
        rintro e w' ⟨v, rfl, ho, hb⟩
        refine ⟨v, v, rfl, fun d hd => by cases hd; kernel_rfl, fun j p d hj hp hl => ?_, heap_below hb q1, below_step q2 hb, q3.below hb, q4, fun e => (by have e : k 17 = false := e; rw [eb] at e; cases e), fun _ => heap_below hb hrow, fun _ => ho.mono q2.size, Nat.lt_of_lt_of_le q8 hb.size⟩
        have e2 : k 19 = false := p2 19 (by kernel_rfl) (by decide)
        exact RS.two_but (i := 18) (j := 19) (md := .any) (by kernel_rfl) rfl rfl rfl rfl (by decide) h0 e2 j p d hj hp hl),
      RS.StepC.of (fun ch => RS.StepE.pure 2 (by kernel_rfl) rfl (fun w => by kernel_rfl) (fun f w h => h)), trivial⟩
  rintro k ch w6 hk ⟨q1, q2, q3, q4, q5, q6, q7, q8⟩
  have HO := Aside0.mk (q7 (hk _))
  have HB := Aside0.mk q2
  clear q1 q2 q3 q4 q5 q6 q7 q8 HS
  (try simp only [RS.sets, List.setIfInBounds_toArray, List.set_cons_zero, List.set_cons_succ])
  go_wp2_with fail
  go_ret
  exact ⟨_, rfl, HO.out, HB.out⟩
set_option maxHeartbeats 8000000 in
set_option maxRecDepth 100000 in
theorem section_calls (a0 a1 a2 a3 a4 : Int) (w : World) (hT : Tab w) : Calls Tryd.prog 18 #[.agg #[.int .u32 a0, .int .u64 a1, .int .u64 a2, .int .u32 a3, .int .u64 a4]] w fun e w' => ∃ v, e = .returned v ∧ Rw w.heap.size v (laidL 64 secF [IntKind.u64.wrap a0, a1, a2, IntKind.u64.wrap a3, a4] 5) w' ∧ Below w.heap.size w w' := by
  have hb : Below w.heap.size w (w.alloc (.cells #[.int .u32 a0, .int .u64 a1, .int .u64 a2, .int .u32 a3, .int .u64 a4] 32)) := bX_ (Below.refl _ _) _
  have hs : Aside0 ((w.alloc (.cells #[.int .u32 a0, .int .u64 a1, .int .u64 a2, .int .u32 a3, .int .u64 a4] 32)).heap[w.heap.size]? = some (.cells #[.int .u32 a0, .int .u64 a1, .int .u64 a2, .int .u32 a3, .int .u64 a4] 32 (0, 0)) ∧ Below w.heap.size w (w.alloc (.cells #[.int .u32 a0, .int .u64 a1, .int .u64 a2, .int .u32 a3, .int .u64 a4] 32)) ∧ FTab (w.alloc (.cells #[.int .u32 a0, .int .u64 a1, .int .u64 a2, .int .u32 a3, .int .u64 a4] 32)) 3 secF ∧ w.heap.size ≤ w.heap.size + 1 ∧ (w.alloc (.cells #[.int .u32 a0, .int .u64 a1, .int .u64 a2, .int .u32 a3, .int .u64 a4] 32)).heap.size = w.heap.size + 1 ∧ 3 < (w.alloc (.cells #[.int .u32 a0, .int .u64 a1, .int .u64 a2, .int .u32 a3, .int .u64 a4] 32)).heap.size) :=
    ⟨World.alloc_heap_new w _, hb, FTab.below hT.2.2.2.1 hb, by omega, World.size_alloc _ _, by rw [World.size_alloc]; have := hT.2.2.2.2; omega⟩
  have HS := hs
  clear hs hb
  go_enter Tryd.func18, Tryd.ntmps18
  go_upto_region 1 with (fail)
  generalize w.alloc (.cells #[.int .u32 a0, .int .u64 a1, .int .u64 a2, .int .u32 a3, .int .u64 a4] 32) = w1 at *
  obtain ⟨g1, hg1⟩ : ∃ g1, w.heap.size = g1 := ⟨_, rfl⟩
  obtain ⟨s0, hs0⟩ : ∃ s0, w.heap.size + 1 = s0 := ⟨_, rfl⟩
  have HS : Aside0 (w1.heap[g1]? = some (.cells #[.int .u32 a0, .int .u64 a1, .int .u64 a2, .int .u32 a3, .int .u64 a4] 32 (0, 0)) ∧ Below w.heap.size w w1 ∧ FTab w1 3 secF ∧ w.heap.size ≤ s0 ∧ w1.heap.size = s0 ∧ 3 < w1.heap.size) := by rw [← hg1, ← hs0]; exact HS
  rw [hg1]
  clear hg1 hs0
  refine RS.wp_choice (C := Value) (by kernel_rfl) (fun ch => (17, ch) :: (2, ch) :: [(3, .slice (some ⟨3, 0, none⟩) 5 5), (4, .pointer (some ⟨g1, 0, none⟩)), (5, .int .u32 a0), (6, .int .u64 (IntKind.u64.wrap a0)), (7, .pointer (some ⟨g1, 1, none⟩)), (8, .int .u64 a1), (9, .pointer (some ⟨g1, 2, none⟩)), (10, .int .u64 a2), (11, .pointer (some ⟨g1, 3, none⟩)), (12, .int .u32 a3), (13, .int .u64 (IntKind.u64.wrap a3)), (14, .pointer (some ⟨g1, 4, none⟩)), (15, .int .u64 a4), (16, .slice (some ⟨s0, 0, none⟩) 5 5)]) (PutE w g1 s0 32 13 14 3 #[.int .u32 a0, .int .u64 a1, .int .u64 a2, .int .u32 a3, .int .u64 a4] secF 64 [IntKind.u64.wrap a0, a1, a2, IntKind.u64.wrap a3, a4]) (by kernel_rfl) (fun ch => by kernel_rfl) undef (fun k hk => ?_) ?_ ?_
  · exact ⟨HS.out.1, bY_ HS.out.2.1, HS.out.2.2.1, HS.out.2.2.2.1, fun _ => HS.out.2.2.2.2.1, fun e => (by rw [hk 13 (by decide)] at e; cases e), fun e => (by rw [hk 14 (by decide)] at e; cases e), HS.out.2.2.2.2.2⟩
  · exact ⟨RS.StepC.of (fun ch => RS.StepE.pure 3 (by kernel_rfl) rfl (fun w => by kernel_rfl) (fun f w h => h)),
      RS.StepC.of (fun ch => RS.StepE.pure 4 (by kernel_rfl) rfl (fun w => by kernel_rfl) (fun f w h => h)),
      RS.StepC.of (fun ch => RS.StepE.load 5 (.int .u32 a0) (by kernel_rfl) (by kernel_rfl) rfl (fun f w h => h) (fun k w p1 p2 h => run_load rfl (by kernel_rfl) (load_cell (k := .u32) Tryd.underlying28 ((bC_ h.1 0).trans rfl)))),
      RS.StepC.of (fun ch => RS.StepE.pure 6 (by kernel_rfl) rfl (fun w => by kernel_rfl) (fun f w h => h)),
      RS.StepC.of (fun ch => RS.StepE.pure 7 (by kernel_rfl) rfl (fun w => by kernel_rfl) (fun f w h => h)),
      RS.StepC.of (fun ch => RS.StepE.load 8 (.int .u64 a1) (by kernel_rfl) (by kernel_rfl) rfl (fun f w h => h) (fun k w p1 p2 h => run_load rfl (by kernel_rfl) (load_cell (k := .u64) Tryd.underlying23 ((bC_ h.1 1).trans rfl)))),
      RS.StepC.of (fun ch => RS.StepE.pure 9 (by kernel_rfl) rfl (fun w => by kernel_rfl) (fun f w h => h)),
      RS.StepC.of (fun ch => RS.StepE.load 10 (.int .u64 a2) (by kernel_rfl) (by kernel_rfl) rfl (fun f w h => h) (fun k w p1 p2 h => run_load rfl (by kernel_rfl) (load_cell (k := .u64) Tryd.underlying23 ((bC_ h.1 2).trans rfl)))),
      RS.StepC.of (fun ch => RS.StepE.pure 11 (by kernel_rfl) rfl (fun w => by kernel_rfl) (fun f w h => h)),
      RS.StepC.of (fun ch => RS.StepE.load 12 (.int .u32 a3) (by kernel_rfl) (by kernel_rfl) rfl (fun f w h => h) (fun k w p1 p2 h => run_load rfl (by kernel_rfl) (load_cell (k := .u32) Tryd.underlying28 ((bC_ h.1 3).trans rfl)))),
      RS.StepC.of (fun ch => RS.StepE.pure 13 (by kernel_rfl) rfl (fun w => by kernel_rfl) (fun f w h => h)),
      RS.StepC.of (fun ch => RS.StepE.pure 14 (by kernel_rfl) rfl (fun w => by kernel_rfl) (fun f w h => h)),
      RS.StepC.of (fun ch => RS.StepE.load 15 (.int .u64 a4) (by kernel_rfl) (by kernel_rfl) rfl (fun f w h => h) (fun k w p1 p2 h => run_load rfl (by kernel_rfl) (load_cell (k := .u64) Tryd.underlying23 ((bC_ h.1 4).trans rfl)))),
      RS.StepC.of (fun ch => RS.StepE.event (.slice (some ⟨s0, 0, none⟩) 5 5) (by intro d hd; cases hd; kernel_rfl) (by kernel_rfl) (fun k w h0 p1 p2 h => by
        have h0 : k 13 = false := h0
        have e1 : k 14 = false := p2 14 (by kernel_rfl) (by decide)
        obtain ⟨q1, q2, q3, q4, q5, q6, q7, q8⟩ := h
        have hz := q5 h0
        have hb : Below w.heap.size w (w.alloc (.cells (nums .u64 [IntKind.u64.wrap a0, a1, a2, IntKind.u64.wrap a3, a4]).toArray 23)) := bX_ (Below.refl _ _) _
        refine ⟨w.alloc (.cells (nums .u64 [IntKind.u64.wrap a0, a1, a2, IntKind.u64.wrap a3, a4]).toArray 23), .inl ?_, heap_below hb q1, below_step q2 hb, q3.below hb, q4, fun e => (by cases e), fun _ => (by rw [← hz]; exact World.alloc_heap_new w _), fun e => (by have e : k 14 = true := e; rw [e1] at e; cases e), Nat.lt_of_lt_of_le q8 hb.size⟩
        rw [← hz]
        kernel_rfl)),
      RS.StepC.chooseCall 32 (fun ch => #[.int .i64 64, .slice (some ⟨3, 0, none⟩) 5 5, .slice (some ⟨s0, 0, none⟩) 5 5]) (fun ch => by kernel_rfl) (fun ch w => by kernel_rfl) (fun k ch w h0 p1 p2 h => by
        have h0 : k 14 = false := h0
        have eb : k 13 = true := p1 13 (by kernel_rfl)
        obtain ⟨q1, q2, q3, q4, q5, q6, q7, q8⟩ := h
        have hrow := q6 eb
        refine (laid_calls 64 3 secF ⟨s0, 0, none⟩ 5 [IntKind.u64.wrap a0, a1, a2, IntKind.u64.wrap a3, a4] w q3 (row_cells hrow) rfl secW (by decide) (by decide) q8 (Array.getElem?_eq_some_iff.1 hrow).1).mono ?_
        rintro e w' ⟨v, rfl, ho, hb⟩
        refine ⟨v, v, rfl, fun d hd => by cases hd; kernel_rfl, fun j p d hj hp hl => ?_, heap_below hb q1, below_step q2 hb, q3.below hb, q4, fun e => (by have e : k 13 = false := e; rw [eb] at e; cases e), fun _ => heap_below hb hrow, fun _ => ho.mono q2.size, Nat.lt_of_lt_of_le q8 hb.size⟩
        have e2 : k 15 = false := p2 15 (by kernel_rfl) (by decide)
        exact RS.two_but (i := 14) (j := 15) (md := .any) (by kernel_rfl) rfl rfl rfl rfl (by decide) h0 e2 j p d hj hp hl),
      RS.StepC.of (fun ch => RS.StepE.pure 2 (by kernel_rfl) rfl (fun w => by kernel_rfl) (fun f w h => h)), trivial⟩
  rintro k ch w6 hk ⟨q1, q2, q3, q4, q5, q6, q7, q8⟩
  have HO := Aside0.mk (q7 (hk _))
  have HB := Aside0.mk q2
  clear q1 q2 q3 q4 q5 q6 q7 q8 HS
  (try simp only [RS.sets, List.setIfInBounds_toArray, List.set_cons_zero, List.set_cons_succ])
  go_wp2_with fail
  go_ret
  exact ⟨_, rfl, HO.out, HB.out⟩
end Go.Proofs.YtopldeeojehklaaDoor.B
