/- names.part, the closure 'number', bytes.IndexByte. A table's symbols, one by one. -/
import Derived.Test.YtgdhciilobnelaaZf5
import Derived.Lib.BytesEntry
import Derived.WalkKit
import Derived.DataElems
namespace Go.Proofs.Ytgdhciilobnelaa.B
open Go.RowKit Go.Lib Go.Proofs.YtgdhciilobnelaaW.PrintWords Go.Proofs.YtgdhciilobnelaaW.PrintLast Go.Proofs.YtgdhciilobnelaaW.PrintMore Go.RF
set_option linter.unusedVariables false
set_option linter.unusedSimpArgs false
attribute [local go_sem] max2_int min2_int max_two min_two
def fits (n : Nat) (at_ sz : Int) : Prop := at_ ≤ (n : Int) ∧ sz ≤ (n : Int) - at_
instance (n : Nat) (a b : Int) : Decidable (fits n a b) := by unfold fits; exact inferInstance
set_option maxHeartbeats 8000000 in
set_option maxRecDepth 100000 in
theorem part_no (A : Option Addr) (n c : Nat) (at_ sz : Int) (w : World) (ha : Rg at_) (hz : Rg sz) (hn : n ≤ 1000000) (h : ¬ fits n at_ sz) :
    Calls Try.prog 21 #[.slice A n c, .int .u64 at_, .int .u64 sz] w fun e w' => e = .returned (.tuple #[.slice none 0 0, .bool false]) ∧ w' = w := by
  have w1 : IntKind.u64.wrap (n : Int) = (n : Int) := wrapU (by omega) (by omega)
  unfold Rg at ha hz
  unfold fits at h
  by_cases h1 : (n : Int) < at_
  · have d1 : decide ((n : Int) < at_) = true := decide_eq_true h1
    clear h1 h ha hz
    go_enter Try.func21, Try.ntmps21
    go_wp2
    go_ret2
    exact ⟨rfl, rfl⟩
  · have d1 : decide ((n : Int) < at_) = false := decide_eq_false h1
    have w2 : IntKind.u64.wrap ((n : Int) - at_) = (n : Int) - at_ := wrapU (by omega) (by omega)
    have d2 : decide ((n : Int) - at_ < sz) = true := decide_eq_true (by omega)
    clear h1 h ha hz
    go_enter Try.func21, Try.ntmps21
    go_wp2
    go_ret2
    exact ⟨rfl, rfl⟩
set_option maxHeartbeats 8000000 in
set_option maxRecDepth 100000 in
theorem indexByteA (ad : Addr) (n c : Nat) (xs : List Int) (hx : xs.length = n) (w : World) (hc : Row8 w ad xs) (cv : Int) :
    (Extern.BytealgIndexByte.indexByte #[.slice (some ad) n c, .int .u8 cv]).run Try.prog w = .ok (.int .i64 (Lib.indexByte (Lib.bytesOf xs) cv.toNat.toUInt8)) w := by
  have hl := Lib.run_loadBytesX (P := Try.prog) w xs ad .empty (fun j x hj => by
    have hjl : j < xs.length := (List.getElem?_eq_some_iff.1 hj).1
    rw [hc j hjl, List.getD_eq_getElem?_getD, hj]
    rfl)
  rw [hx] at hl
  have hs := Lib.run_indexByteString (P := Try.prog) ⟨(Lib.bytesOf xs).toArray⟩ cv w
  have he : (⟨ByteArray.empty.data ++ (Lib.bytesOf xs).toArray⟩ : ByteArray) = ⟨(Lib.bytesOf xs).toArray⟩ := by
    apply ByteArray.ext
    show (#[] : Array UInt8) ++ (Lib.bytesOf xs).toArray = (Lib.bytesOf xs).toArray
    simp
  rw [he] at hl
  change Sem.run Try.prog (do
    let b ← Extern.Bytes.bytesOf (.slice (some ad) n c)
    let c ← Extern.Bytes.asByte (.int .u8 cv)
    match (List.range b.size).find? fun i => b[i]! == c with
    | some i => pure (goInt i)
    | none => pure (goInt (-1))) w = _
  change Sem.run Try.prog (do
    let b ← Extern.Bytes.bytesOf (.string ⟨(Lib.bytesOf xs).toArray⟩)
    let c ← Extern.Bytes.asByte (.int .u8 cv)
    match (List.range b.size).find? fun i => b[i]! == c with
    | some i => pure (goInt i)
    | none => pure (goInt (-1))) w = _ at hs
  simp only [Extern.Bytes.bytesOf, Sem.run_bind, Sem.run_pure, hl, Result.andThen] at hs ⊢
  exact hs
set_option maxHeartbeats 8000000 in
set_option maxRecDepth 100000 in
theorem indexByte_calls (ad : Addr) (n c : Nat) (xs : List Int) (cv : Int) (w : World) (hx : xs.length = n) (hc : Row8 w ad xs) :
    Calls Try.prog 36 #[.slice (some ad) n c, .int .u8 cv] w fun e w' => e = .returned (.int .i64 (Lib.indexByte (Lib.bytesOf xs) cv.toNat.toUInt8)) ∧ w' = w := by
  go_enter Try.func36, Try.ntmps36
  go_wp2
  rw [run_callFunc_extern Try.func41 (by kernel_rfl) (by kernel_rfl) (by kernel_rfl) (e := Extern.BytealgIndexByte.indexByte) (by kernel_rfl), indexByteA ad n c xs hx w hc cv]
  simp only [Result.andThen]
  rw [Oper.upon_value]
  go_wp2
  go_ret
  exact ⟨rfl, rfl⟩
theorem number_of (n : Nat) (ad : Addr) (c : Nat) (xs : List Int) (w : World) (hn : xs.length = n) (h1 : 1 ≤ n) (h8 : n ≤ 8) (hc : n ≤ c) (hx : Row8 w ad xs) (hb : BB xs) :
    Calls Try.prog 35 #[.slice (some ad) n c] w fun e w' => e = .returned (.int .u64 (numLE xs)) ∧ w' = w := by
  subst hn
  exact number_same ad c xs w h1 h8 hc hx hb
theorem slice_field (ad : Addr) (n c : Nat) (f : Nat × Nat) (h : 1 ≤ f.2 ∧ f.2 ≤ 8 ∧ f.1 + f.2 ≤ n) (hc : n ≤ c) (W : World) :
    (Instr.slice 23 (.slice (some ad) n c) (some (.int .i64 (f.1 : Int))) (some (.int .i64 ((f.1 : Int) + (f.2 : Int)))) none).run Try.prog W = .ok (.slice (some (ad.add f.1)) f.2 (c - f.1)) W := by
  have hu : Try.prog.underlying 23 = some (.slice 5) := by kernel_rfl
  have hcl : Try.prog.cellsOf 5 = 1 := by kernel_rfl
  have h1 : (0 : Int) ≤ (f.1 : Int) := by omega
  have h2 : (f.1 : Int) ≤ (f.1 : Int) + (f.2 : Int) := by omega
  have h3 : (f.1 : Int) + (f.2 : Int) ≤ (c : Int) := by omega
  have h4 : ¬ c = f.1 := by omega
  go_simp
  omega
set_option maxHeartbeats 8000000 in
set_option maxRecDepth 100000 in
theorem num_calls (gt : Nat) (ad : Addr) (n c : Nat) (xs : List Int) (f : Nat × Nat) (w : World) (hg : w.heap[gt]? = some (.cells #[.slice (some ad) n c] 23 (0, 0))) (hn : xs.length = n) (hc : n ≤ c) (hm : n ≤ 1000000) (hx : Row8 w ad xs) (hb : BB xs) (h : 1 ≤ f.2 ∧ f.2 ≤ 8 ∧ f.1 + f.2 ≤ n) :
    Calls Try.prog 34 #[.int .i64 (f.1 : Int), .int .i64 (f.2 : Int), .pointer (some ⟨gt, 0, none⟩)] w fun e w' => e = .returned (.int .u64 (numLE ((xs.drop f.1).take f.2))) ∧ w' = w := by
  have hlen : ((xs.drop f.1).take f.2).length = f.2 := by rw [List.length_take, List.length_drop]; omega
  have q0 : w.cell? ⟨gt, 0, none⟩ = some (.slice (some ad) n c) := (bC_ hg 0).trans rfl
  have hsl := fun W => slice_field ad n c f h hc W
  have hsm : IntKind.i64.wrap ((f.1 : Int) + (f.2 : Int)) = (f.1 : Int) + (f.2 : Int) := by rw [IntKind.wrap_i64]; omega
  have hrow : Row8 w (ad.add f.1) ((xs.drop f.1).take f.2) := fun j hj => by
    rw [hlen] at hj
    have e1 : (ad.add f.1).add j = ad.add (f.1 + j) := Addr.add_add _ _ _
    rw [e1, hx _ (by omega), List.getD_eq_getElem?_getD, List.getD_eq_getElem?_getD, List.getElem?_take, if_pos hj, List.getElem?_drop]
  have HROW := Aside0.mk hrow
  have HLEN := Aside0.mk hlen
  have HB := Aside0.mk hb
  have H := Aside0.mk h
  have HC := Aside0.mk hc
  clear hrow hlen hb h hx hg hc hn
  go_enter Try.func34, Try.ntmps34
  go_wp2_with (go_at_call 35; refine (number_of f.2 (ad.add f.1) (c - f.1) ((xs.drop f.1).take f.2) _ HLEN.out H.out.1 H.out.2.1 (by have := HC.out; have := H.out; omega) HROW.out ((HB.out.drop _).take _)).mono ?_; rintro e w1 ⟨rfl, rfl⟩)
  go_ret
  exact ⟨rfl, rfl⟩
end Go.Proofs.Ytgdhciilobnelaa.B
namespace Go.Proofs.Ytgdhciilobnelaa.B
open Go.RowKit Go.Lib Go.Proofs.YtgdhciilobnelaaW.PrintWords Go.Proofs.YtgdhciilobnelaaW.PrintLast Go.Proofs.YtgdhciilobnelaaW.PrintMore Go.RF
set_option linter.unusedVariables false
set_option linter.unusedSimpArgs false
attribute [local go_sem] max2_int min2_int max_two min_two
theorem run_store_row {P : Program} {o : Oper} {ρ : Operand → Value} {ty : TypeId} {x y : Operand} {w : World} {g : Nat} {cells old : Array Value} {t : TypeId} (ho : o.op = .store ty x y) (hx : ρ x = .pointer (some ⟨g, 0, none⟩)) (hy : ρ y = .agg cells)
    (hg : w.heap[g]? = some (.cells old t (0, 0))) (hi : (P.info? ty).map (·.size) = some cells.size) (hold : old.size = cells.size) (h1 : cells.all (·.oneCell') = true) : (execOp ρ o).run P w = .ok .skip (w.setRow g cells) := by
  unfold execOp
  simp only [ho, hx, hy, Instr.storeAt, Instr.sureAddr, Sem.run_bind, Sem.run_pure, Result.andThen_ok, run_storeVar_row w g t ty old cells hg hi hold h1]
def numAt (E : List Int) (f : Nat × Nat) : Int := numLE ((E.drop f.1).take f.2)
def symF (E : List Int) : Bool := (bits .and .u8 (E.getD 4 0) 15 == 2) && !(numAt E (6, 2) == 0)
def nameAt (Z : List Int) (o : Int) : Option ByteArray :=
  if o < (Z.length : Int) then if 0 ≤ Lib.indexByte (Lib.bytesOf (Z.drop o.toNat)) 0 then some (strOfNums ((Z.drop o.toNat).take (Lib.indexByte (Lib.bytesOf (Z.drop o.toNat)) 0).toNat)) else none else none
def symE (Z E : List Int) : S38 × Bool :=
  match nameAt Z (numAt E (0, 4)) with
  | some nm => (⟨nm, numAt E (8, 8), numAt E (16, 8), symF E⟩, true)
  | none => (⟨⟨#[]⟩, numAt E (8, 8), numAt E (16, 8), symF E⟩, false)
def symL (T Z : List Int) : List (S38 × Bool) := (List.range (T.length / 24 - 1)).map fun i => symE Z (T.drop (24 * (i + 1)))
def encX (x : S38 × Bool) : Array Value := #[.agg (encS x.1), .bool x.2]
theorem symL_split (T Z : List Int) {i : Nat} (h : i < T.length / 24 - 1) : ∃ suf, symL T Z = (symL T Z).take i ++ symE Z (T.drop (24 * (i + 1))) :: suf ∧ (symL T Z).take (i + 1) = (symL T Z).take i ++ [symE Z (T.drop (24 * (i + 1)))] := by
  have hl : i < (symL T Z).length := by simp [symL]; exact h
  have he : (symL T Z)[i] = symE Z (T.drop (24 * (i + 1))) := by simp [symL]
  refine ⟨(symL T Z).drop (i + 1), ?_, ?_⟩
  · rw [← he, ← List.drop_eq_getElem_cons hl, List.take_append_drop]
  · rw [← he, List.take_succ_eq_append_getElem hl]
theorem symL_len (T Z : List Int) : (symL T Z).length = T.length / 24 - 1 := by simp [symL]
theorem symbols_calls (A1 A2 : Option Addr) (n1 c1 n2 c2 : Nat) (w : World) : Calls Try.prog 22 #[.slice A1 n1 c1, .slice A2 n2 c2] w fun e w' => e = .returned (.func (.func 33) #[] #[.pointer (some ⟨w.heap.size, 0, none⟩), .pointer (some ⟨w.heap.size + 1, 0, none⟩)]) ∧
    w'.heap[w.heap.size]? = some (.cells #[.slice A1 n1 c1] 23 (0, 0)) ∧ w'.heap[w.heap.size + 1]? = some (.cells #[.slice A2 n2 c2] 23 (0, 0)) ∧ w'.heap.size = w.heap.size + 2 ∧ Below w.heap.size w w' := by
  go_enter Try.func22, Try.ntmps22
  go_wp2_with fail
  have h1 := World.alloc_heap_new w (.cells #[.slice A1 n1 c1] 23)
  have hb1 : Below w.heap.size w (w.alloc (.cells #[.slice A1 n1 c1] 23)) := bX_ (Below.refl _ _) _
  have hs1 : (w.alloc (.cells #[.slice A1 n1 c1] 23)).heap.size = w.heap.size + 1 := World.size_alloc _ _
  have hb2 : Below (w.alloc (.cells #[.slice A1 n1 c1] 23)).heap.size (w.alloc (.cells #[.slice A1 n1 c1] 23)) ((w.alloc (.cells #[.slice A1 n1 c1] 23)).alloc (.cells #[.slice A2 n2 c2] 23)) := bX_ (Below.refl _ _) _
  have h2 := World.alloc_heap_new (w.alloc (.cells #[.slice A1 n1 c1] 23)) (.cells #[.slice A2 n2 c2] 23)
  have hs2 : ((w.alloc (.cells #[.slice A1 n1 c1] 23)).alloc (.cells #[.slice A2 n2 c2] 23)).heap.size = w.heap.size + 1 + 1 := by rw [World.size_alloc, hs1]
  rw [hs1] at h2
  go_ret
  exact ⟨rfl, heap_below hb2 h1, h2, hs2, below_step hb1 hb2⟩
def SyE (w1 : World) (C : Array Value) (f : Nat → Bool) (w : World) : Prop :=
  Below w1.heap.size w1 w ∧ w.heap.size = (bif f 15 then w1.heap.size + 1 else w1.heap.size) ∧ (f 15 = true → w.heap[w1.heap.size]? = some (.cells (bif f 16 then C else #[.string ⟨#[]⟩, .int .u64 0, .int .u64 0, .bool false]) 38 (0, 0)))
theorem and_u8 {x : Int} (w : World) : (binOp .and 5 (.int .u8 x) (.int .u8 15)).run Try.prog w = .ok (.int .u8 (bits .and .u8 x 15)) w := by
  simp [binOp, Op.intBits, bits]
theorem eql_u8 {x y : Int} {b : Bool} (h : (x == y) = b) (w : World) : (binOp .eql 5 (.int .u8 x) (.int .u8 y)).run Try.prog w = .ok (.bool b) w := by
  subst h
  simp [binOp, Op.intCmp]
theorem neq_u64 {x y : Int} {b : Bool} (h : (!(x == y)) = b) (w : World) : (binOp .neq 26 (.int .u64 x) (.int .u64 y)).run Try.prog w = .ok (.bool b) w := by
  subst h
  simp [binOp, Op.intCmp, bne]
theorem lss_u64 {x y : Int} {b : Bool} (h : decide (x < y) = b) (w : World) : (binOp .lss 26 (.int .u64 x) (.int .u64 y)).run Try.prog w = .ok (.bool b) w := by
  subst h
  simp [binOp, Op.intCmp]
theorem index_b (ad : Addr) (n c i : Nat) (hi : i < n) (W : World) : (Instr.indexAt 23 (.slice (some ad) n c) (.int .i64 (i : Int))).run Try.prog W = .ok (.pointer (some (ad.add i))) W := by
  have hu := Try.underlying23
  have hu5 := Try.underlying5
  have h1 : (0 : Int) ≤ (i : Int) := by omega
  have h2 : (i : Int) < (n : Int) := by omega
  go_simp
theorem load_slice {W : World} {ad : Addr} {A : Option Addr} {n c : Nat} (h : W.cell? ad = some (.slice A n c)) : (Instr.loadAt 23 (.pointer (some ad))).run Try.prog W = .ok (.slice A n c) W := by
  have hu := Try.underlying23
  have ha : (isAgg 23).run Try.prog W = .ok false W := by unfold isAgg; rw [Sem.run_bind, run_underlying hu]; rfl
  go_simp
theorem run_slice1 {o : Oper} {ρ : Operand → Value} {x y : Operand} {a b v : Value} {w : World} (ho : o.op = .slice 23 x (some y) none none) (hx : ρ x = a) (hy : ρ y = b) (h : (Instr.slice 23 a (some b) none none).run Try.prog w = .ok v w) :
    (execOp ρ o).run Try.prog w = .ok (.value v) w := by
  have hu : Try.prog.underlying 23 = some (.slice (Try.prog.elem 23)) := by kernel_rfl
  unfold execOp
  simp only [ho, Option.map_some, Option.map_none, hx, hy, Sem.run_bind, run_sliceAt_slice _ _ _ _ _ _ hu, h, Result.andThen_ok, Sem.run_pure]
theorem slice_from (ad : Addr) (n c k : Nat) (h : k < n) (hc : n ≤ c) (W : World) : (Instr.slice 23 (.slice (some ad) n c) (some (.int .u64 (k : Int))) none none).run Try.prog W = .ok (.slice (some (ad.add k)) (n - k) (c - k)) W := by
  have hu : Try.prog.underlying 23 = some (.slice 5) := by kernel_rfl
  have hcl : Try.prog.cellsOf 5 = 1 := by kernel_rfl
  have h1 : (0 : Int) ≤ (k : Int) := by omega
  have h2 : (k : Int) ≤ (n : Int) := by omega
  have h4 : ¬ c = k := by omega
  go_simp
theorem slice_24 (ad : Addr) (n c : Nat) (h : 24 < n) (hc : n ≤ c) (W : World) : (Instr.slice 23 (.slice (some ad) n c) (some (.int .i64 24)) none none).run Try.prog W = .ok (.slice (some (ad.add 24)) (n - 24) (c - 24)) W := by
  have hu : Try.prog.underlying 23 = some (.slice 5) := by kernel_rfl
  have hcl : Try.prog.cellsOf 5 = 1 := by kernel_rfl
  have h2 : (24 : Int) ≤ (n : Int) := by omega
  have h4 : ¬ c = 24 := by omega
  go_simp
theorem slice_to (ad : Addr) (n c k : Nat) (h : k ≤ n) (hc : n ≤ c) (W : World) : (Instr.slice 23 (.slice (some ad) n c) none (some (.int .i64 (k : Int))) none).run Try.prog W = .ok (.slice (some ad) k c) W := by
  have hu : Try.prog.underlying 23 = some (.slice 5) := by kernel_rfl
  have hcl : Try.prog.cellsOf 5 = 1 := by kernel_rfl
  have h1 : (0 : Int) ≤ (k : Int) := by omega
  have h2 : (k : Int) ≤ (c : Int) := by omega
  go_simp
theorem indexByte_lt : ∀ (l : List UInt8) (c : UInt8), Lib.indexByte l c < (l.length : Int)
  | [], _ => by simp [Lib.indexByte]
  | b :: l, c => by
    have ih := indexByte_lt l c
    unfold Lib.indexByte
    simp only [List.length_cons]
    split
    · omega
    · split <;> omega
def boxLen (gt : Nat) (W : World) : Nat := match W.cell? ⟨gt, 0, none⟩ with | some (.slice _ n _) => n | _ => 0
set_option maxHeartbeats 8000000 in
set_option maxRecDepth 100000 in
theorem syms_iter (gt gz : Nat) (aT : Addr) (A2 : Option Addr) (c1 c2 : Nat) (T Z : List Int) (W : World) (R : Nat → Prop)
    (ht : W.heap[gt]? = some (.cells #[.slice (some aT) T.length c1] 23 (0, 0))) (hz : W.heap[gz]? = some (.cells #[.slice A2 Z.length c2] 23 (0, 0))) (hne : gt ≠ gz)
    (hT : Row8 W aT T ∧ aT.block < W.heap.size ∧ aT.block ≠ gt ∧ ¬ R aT.block) (hZ : 0 < Z.length → ∃ az, A2 = some az ∧ Row8 W az Z ∧ az.block < W.heap.size ∧ az.block ≠ gt ∧ ¬ R az.block)
    (hbT : BB T) (hbZ : BB Z) (hc1 : T.length ≤ c1) (hc2 : Z.length ≤ c2) (hm1 : T.length ≤ 1000000) (hm2 : Z.length ≤ 1000000) (hR : ∀ k, R k → k ≠ gt ∧ k ≠ gz) :
    Iter Try.prog 33 #[.pointer (some ⟨gt, 0, none⟩), .pointer (some ⟨gz, 0, none⟩)] encX (fun k => k = gt) R (symL T Z) W := by
  intro lp J Jx hJ hJx hY h0
  refine callsIn_wide.2 ?_
  simp only [List.append_toArray, List.cons_append, List.nil_append]
  have hsz : gt < W.heap.size ∧ gz < W.heap.size := ⟨blk_lt ht, blk_lt hz⟩
  have HY := Aside0.mk hY
  have HTT := Aside0.mk hT
  have HZZ := Aside0.mk hZ
  have HRR := Aside0.mk hR
  have HBT := Aside0.mk hbT
  have HBZ := Aside0.mk hbZ
  obtain ⟨L, hL⟩ : ∃ L, T.length = L := ⟨_, rfl⟩
  obtain ⟨nz, hnz⟩ : ∃ nz, Z.length = nz := ⟨_, rfl⟩
  have HL := Aside0.mk hL
  have HNZ := Aside0.mk hnz
  rw [hL] at ht hc1 hm1
  rw [hnz] at hz hc2 hm2
  have HGZ := Aside0.mk hz
  have HC2 := Aside0.mk hc2
  have h0a : aT.add (24 * 0) = aT := by simp [Addr.add]
  clear hY hT hZ hR hbT hbZ hL hz hnz hc2
  go_enter Try.func33, Try.ntmps33
  go_wp2_with fail
  go_loopw [] (fun wr => ∃ k : Nat, (k = 0 ∨ 24 * k + 24 ≤ L) ∧ wr.heap[gt]? = some (.cells #[.slice (some (aT.add (24 * k))) (L - 24 * k) (c1 - 24 * k)] 23 (0, 0)) ∧ J ((symL T Z).take k) wr ∧ Keeps (fun q => q = gt ∨ R q ∨ W.heap.size ≤ q) W wr) (fun wr => boxLen gt wr)
  case atStart => exact ⟨0, .inl rfl, by rw [h0a]; exact ht, by simpa using h0, Keeps.refl _ _⟩
  case round =>
    obtain ⟨k, hk, hb, hj, hkp⟩ := hrel
    have HJ' := Aside0.mk hj
    have HK := Aside0.mk hkp
    have HBOX := Aside0.mk hb
    have cg := (cell_of_block hb).1
    have fg := (cell_of_block hb).2
    clear hj hkp hb ht h0 h0a
    by_cases hlt : L - 24 * k < 48
    · have e1 : decide (48 ≤ ((L - 24 * k : Nat) : Int)) = false := decide_eq_false (by omega)
      have HLT := Aside0.mk hlt
      clear hlt
      go_wp2
      go_end0
      refine ⟨⟨_, rfl⟩, .inl ?_⟩
      have := HJ'.out
      rw [List.take_of_length_le (by rw [symL_len, HL.out]; have := HLT.out; omega)] at this
      exact this
    · have hbx0 : boxLen gt wr = L - 24 * k := by unfold boxLen; rw [cg]
      have HBX0 := Aside0.mk hbx0
      obtain ⟨suf, hs1, hs2⟩ := symL_split T Z (i := k) (by rw [HL.out]; omega)
      have HS1 := Aside0.mk hs1
      have HS2 := Aside0.mk hs2
      have hET : (T.drop (24 * (k + 1))).length = L - 24 * k - 24 := by rw [List.length_drop, HL.out]; omega
      have hadd : (aT.add (24 * k)).add 24 = aT.add (24 * (k + 1)) := by rw [Addr.add_add]; congr 1
      have hrow : Row8 W (aT.add (24 * (k + 1))) (T.drop (24 * (k + 1))) := fun j hj => by
        rw [hET] at hj
        have e1 : (aT.add (24 * (k + 1))).add j = aT.add (24 * (k + 1) + j) := Addr.add_add _ _ _
        rw [e1, HTT.out.1 _ (by rw [HL.out]; omega), List.getD_eq_getElem?_getD, List.getD_eq_getElem?_getD, List.getElem?_drop]
      have hblk : (aT.add (24 * (k + 1))).block = aT.block := block_add _ _
      have hbE : BB (T.drop (24 * (k + 1))) := HBT.out.drop _
      have hcE : L - 24 * k - 24 ≤ c1 - 24 * k - 24 := by omega
      have hkn : k + 1 = 0 ∨ 24 * (k + 1) + 24 ≤ L := by omega
      have HKN := Aside0.mk hkn
      have e1 : decide (48 ≤ ((L - 24 * k : Nat) : Int)) = true := decide_eq_true (by omega)
      have hsl := fun V => slice_24 (aT.add (24 * k)) (L - 24 * k) (c1 - 24 * k) (by omega) (by omega) V
      rw [hadd] at hsl
      have hn24 : 24 ≤ L - 24 * k - 24 := by omega
      have hnm : L - 24 * k - 24 ≤ 1000000 := by omega
      clear hadd hs1 hs2 hbx0 hlt hkn
      generalize T.drop (24 * (k + 1)) = E at *
      have hAD := Aside0.mk (show aT.add (24 * (k + 1)) = aT.add (24 * (k + 1)) from rfl)
      go_upto_region 3 with (fail)
      clear hsl e1 cg fg
      have hg1 := blk_store HBOX.out (.slice (some (aT.add (24 * (k + 1)))) (L - 24 * k - 24) (c1 - 24 * k - 24))
      have hk1 : Keeps (fun q => q = gt) wr (wr.setCell ⟨gt, 0, none⟩ (.slice (some (aT.add (24 * (k + 1)))) (L - 24 * k - 24) (c1 - 24 * k - 24))) := (Keeps.refl _ _).setCell _ _ rfl
      generalize wr.setCell ⟨gt, 0, none⟩ (.slice (some (aT.add (24 * (k + 1)))) (L - 24 * k - 24) (c1 - 24 * k - 24)) = w1 at *
      have hj1 := hJ _ _ _ HJ'.out hk1
      have hkk1 : Keeps (fun q => q = gt ∨ R q ∨ W.heap.size ≤ q) W w1 := HK.out.trans (hk1.mono (fun q _ h => .inl h))
      have hnot : ∀ {q : Nat}, q < W.heap.size → q ≠ gt → ¬ R q → ¬ (q = gt ∨ R q ∨ W.heap.size ≤ q) := fun h1 h2 h3 h => by rcases h with h | h | h <;> first | exact h2 h | exact h3 h | omega
      have HX := Aside0.mk (show Row8 w1 (aT.add (24 * (k + 1))) E from fun j hj => hkk1.cell (hrow j hj) (by rw [block_add, hblk]; exact hnot HTT.out.2.1 HTT.out.2.2.1 HTT.out.2.2.2))
      have HZ1 := Aside0.mk (hkk1.at_ HGZ.out (hnot hsz.2 (Ne.symm hne) (fun h => (HRR.out _ h).2 rfl)))
      have HZR := Aside0.mk (show 0 < nz → ∃ az, A2 = some az ∧ Row8 w1 az Z from fun h => by
        obtain ⟨az, h1, h2, h3, h4, h5⟩ := HZZ.out (by rw [HNZ.out]; exact h)
        exact ⟨az, h1, fun j hj => hkk1.cell (h2 j hj) (by rw [block_add]; exact hnot h3 h4 h5)⟩)
      have HG := Aside0.mk hg1
      have HJ1 := Aside0.mk hj1
      have HK1 := Aside0.mk hkk1
      have HN := Aside0.mk hET
      have HB := Aside0.mk hbE
      have HC := Aside0.mk hcE
      have HM := Aside0.mk (And.intro hn24 hnm)
      clear hg1 hj1 hkk1 hET hbE hcE hn24 hnm hrow hblk hk1 hnot HJ' HBOX hAD
      generalize hadq : aT.add (24 * (k + 1)) = ad at *
      have HAD := Aside0.mk hadq
      clear hadq
      generalize hnq : L - 24 * k - 24 = n at *
      generalize hcq : c1 - 24 * k - 24 = c at *
      have HNN := Aside0.mk (show n = L - 24 * (k + 1) ∧ c = c1 - 24 * (k + 1) by omega)
      clear hnq hcq
      obtain ⟨fb, hfb⟩ : ∃ fb, symF E = fb := ⟨_, rfl⟩
      have HFB := Aside0.mk hfb
      clear hfb
      go_cut [5] from 15 (fun v5 wc => v5 = .pointer (some ⟨w1.heap.size, 0, none⟩) ∧ Aside0 (Below w1.heap.size w1 wc) ∧ Aside0 (wc.heap[w1.heap.size]? = some (.cells #[.string ⟨#[]⟩, .int .u64 (numAt E (8, 8)), .int .u64 (numAt E (16, 8)), .bool fb] 38 (0, 0))))
      case first =>
        by_cases hq : (bits .and .u8 (E.getD 4 0) 15 == 2) = true
        · have H2 := Aside0.mk hq
          clear hq
          refine RS.wp_events (by kernel_rfl) [(15, .func (.func 34) #[] #[.pointer (some ⟨gt, 0, none⟩)]), (16, .int .u64 (numAt E (8, 8))), (17, .func (.func 34) #[] #[.pointer (some ⟨gt, 0, none⟩)]), (18, .int .u64 (numAt E (16, 8))), (19, .slice (some ad) n c), (20, .pointer (some (ad.add 4))), (21, .int .u8 (E.getD 4 0)), (22, .int .u8 (bits .and .u8 (E.getD 4 0) 15)), (23, .bool true), (24, .bool true), (25, .func (.func 34) #[] #[.pointer (some ⟨gt, 0, none⟩)]), (26, .int .u64 (numAt E (6, 2))), (27, .bool fb), (28, .bool fb), (29, .agg #[.string ⟨#[]⟩, .int .u64 (numAt E (8, 8)), .int .u64 (numAt E (16, 8)), .bool fb]), (5, .pointer (some ⟨w1.heap.size, 0, none⟩))] (SyE w1 #[.string ⟨#[]⟩, .int .u64 (numAt E (8, 8)), .int .u64 (numAt E (16, 8)), .bool fb]) (by kernel_rfl) (by kernel_rfl) (fun f hk => ?_) ?_ ?_
          · exact ⟨bY_ (Below.refl _ _), by rw [hk 15 (by decide)]; rfl, fun e => (by rw [hk 15 (by decide)] at e; cases e)⟩
          · exact ⟨RS.StepE.pure 15 (by kernel_rfl) rfl (fun w => by kernel_rfl) (fun f w h => h),
              RS.StepE.call 16 34 #[.int .i64 8, .int .i64 8, .pointer (some ⟨gt, 0, none⟩)] (.int .u64 (numAt E (8, 8))) (by kernel_rfl) (by kernel_rfl) rfl (fun w => by kernel_rfl) (fun f wq h0 p1 p2 h => (num_calls gt ad n c E (8, 8) wq (heap_below h.1 HG.out) HN.out HC.out HM.out.2 (fun j hj => pw_cell_below h.1 (HX.out j hj)) HB.out (by have := HM.out; exact ⟨by decide, by decide, by show 8 + 8 ≤ n; omega⟩)).mono (by rintro e w' ⟨rfl, rfl⟩; exact ⟨rfl, h⟩)),
              RS.StepE.pure 17 (by kernel_rfl) rfl (fun w => by kernel_rfl) (fun f w h => h),
              RS.StepE.call 18 34 #[.int .i64 16, .int .i64 8, .pointer (some ⟨gt, 0, none⟩)] (.int .u64 (numAt E (16, 8))) (by kernel_rfl) (by kernel_rfl) rfl (fun w => by kernel_rfl) (fun f wq h0 p1 p2 h => (num_calls gt ad n c E (16, 8) wq (heap_below h.1 HG.out) HN.out HC.out HM.out.2 (fun j hj => pw_cell_below h.1 (HX.out j hj)) HB.out (by have := HM.out; exact ⟨by decide, by decide, by show 16 + 8 ≤ n; omega⟩)).mono (by rintro e w' ⟨rfl, rfl⟩; exact ⟨rfl, h⟩)),
              RS.StepE.load 19 (.slice (some ad) n c) (by kernel_rfl) (by kernel_rfl) rfl (fun f w h => h) (fun f wq p1 p2 h => run_load rfl (by kernel_rfl) (load_slice ((bC_ (heap_below h.1 HG.out) 0).trans rfl))),
              RS.StepE.load 20 (.pointer (some (ad.add 4))) (by kernel_rfl) (by kernel_rfl) rfl (fun f w h => h) (fun f wq p1 p2 h => run_indexAddr rfl (by kernel_rfl) (by kernel_rfl) (index_b ad n c 4 (by have := HM.out; omega) wq)),
              RS.StepE.load 21 (.int .u8 (E.getD 4 0)) (by kernel_rfl) (by kernel_rfl) rfl (fun f w h => h) (fun f wq p1 p2 h => run_load rfl (by kernel_rfl) (load_cell (k := .u8) Try.underlying5 (pw_cell_below h.1 (HX.out 4 (by rw [HN.out]; have := HM.out; omega))))),
              RS.StepE.load 22 (.int .u8 (bits .and .u8 (E.getD 4 0) 15)) (by kernel_rfl) (by kernel_rfl) rfl (fun f w h => h) (fun f wq p1 p2 h => run_bin rfl (by kernel_rfl) (by kernel_rfl) (by kernel_rfl) (and_u8 wq)),
              RS.StepE.load 23 (.bool true) (by kernel_rfl) (by kernel_rfl) rfl (fun f w h => h) (fun f wq p1 p2 h => run_bin rfl (by kernel_rfl) (by kernel_rfl) (by kernel_rfl) (eql_u8 H2.out wq)),
              RS.StepE.pure 24 (by kernel_rfl) rfl (fun w => by kernel_rfl) (fun f w h => h),
              RS.StepE.pure 25 (by kernel_rfl) rfl (fun w => by kernel_rfl) (fun f w h => h),
              RS.StepE.call 26 34 #[.int .i64 6, .int .i64 2, .pointer (some ⟨gt, 0, none⟩)] (.int .u64 (numAt E (6, 2))) (by kernel_rfl) (by kernel_rfl) rfl (fun w => by kernel_rfl) (fun f wq h0 p1 p2 h => (num_calls gt ad n c E (6, 2) wq (heap_below h.1 HG.out) HN.out HC.out HM.out.2 (fun j hj => pw_cell_below h.1 (HX.out j hj)) HB.out (by have := HM.out; exact ⟨by decide, by decide, by show 6 + 2 ≤ n; omega⟩)).mono (by rintro e w' ⟨rfl, rfl⟩; exact ⟨rfl, h⟩)),
              RS.StepE.load 27 (.bool fb) (by kernel_rfl) (by kernel_rfl) rfl (fun f w h => h) (fun f wq p1 p2 h => run_bin rfl (by kernel_rfl) (by kernel_rfl) (by kernel_rfl) (neq_u64 (x := numAt E (6, 2)) (y := 0) (by rw [← HFB.out]; unfold symF; rw [H2.out]; rfl) wq)),
              RS.StepE.pure 28 (by kernel_rfl) rfl (fun w => by kernel_rfl) (fun f w h => h),
              RS.StepE.pure 29 (by kernel_rfl) rfl (fun w => by kernel_rfl) (fun f w h => h),
              RS.StepE.event (.pointer (some ⟨w1.heap.size, 0, none⟩)) (by intro d hd; cases hd; kernel_rfl) (by kernel_rfl) (fun f wq h0 p1 p2 h => by
                    have h0 : f 15 = false := h0
                    obtain ⟨h1, h2, h3⟩ := h
                    rw [h0] at h2
                    have h2 : wq.heap.size = w1.heap.size := h2
                    have e16 : f 16 = false := p2 16 (by kernel_rfl) (by decide)
                    have hr : ∀ {x : Value}, x = .pointer (some ⟨wq.heap.size, 0, none⟩) → True := fun _ => trivial
                    refine ⟨wq.alloc (.cells #[.string ⟨#[]⟩, .int .u64 0, .int .u64 0, .bool false] 38), .inl ?_, bX_ h1 _, by rw [World.size_alloc, h2]; rfl, fun _ => ?_⟩
                    · rw [← h2]
                      kernel_rfl
                    · rw [← h2]
                      show (wq.alloc _).heap[wq.heap.size]? = some (.cells (bif f 16 then _ else _) 38 (0, 0))
                      rw [e16]
                      exact World.alloc_heap_new wq _),
              RS.StepE.event (undef) (by intro d hd; cases hd) (by kernel_rfl) (fun f wq h0 p1 p2 h => by
                    have h0 : f 16 = false := h0
                    have e15 : f 15 = true := p1 15 (by kernel_rfl)
                    obtain ⟨h1, h2, h3⟩ := h
                    have h3 := h3 e15
                    rw [h0] at h3
                    refine ⟨_, .inr ⟨run_store_row (cells := #[.string ⟨#[]⟩, .int .u64 (numAt E (8, 8)), .int .u64 (numAt E (16, 8)), .bool fb]) (old := #[.string ⟨#[]⟩, .int .u64 0, .int .u64 0, .bool false]) rfl (by kernel_rfl) (by kernel_rfl) h3 (by kernel_rfl) rfl (by simp [Value.oneCell']), rfl⟩, below_setRow h1 (Nat.le_refl _) _, by have h2 : wq.heap.size = bif f 15 then w1.heap.size + 1 else w1.heap.size := h2; simpa [World.setRow, RS.upd] using h2, fun _ => setRow_heap _ _ _ _ _ _ h3⟩), trivial⟩
          rintro f w2 hk ⟨hs1, -, hs3⟩
          have hs3 := hs3 (hk 15)
          rw [hk 16] at hs3
          (try simp only [List.cons_append, List.nil_append, RS.sets, List.setIfInBounds_toArray, List.set_cons_zero, List.set_cons_succ])
          go_wp2
          go_meet
          case rel => exact ⟨rfl, ⟨hs1⟩, ⟨hs3⟩⟩
        · have hq := Bool.eq_false_iff.mpr hq
          have H2 := Aside0.mk hq
          clear hq
          obtain rfl : false = fb := by rw [← HFB.out]; unfold symF; rw [H2.out]; rfl
          refine RS.wp_events (by kernel_rfl) [(15, .func (.func 34) #[] #[.pointer (some ⟨gt, 0, none⟩)]), (16, .int .u64 (numAt E (8, 8))), (17, .func (.func 34) #[] #[.pointer (some ⟨gt, 0, none⟩)]), (18, .int .u64 (numAt E (16, 8))), (19, .slice (some ad) n c), (20, .pointer (some (ad.add 4))), (21, .int .u8 (E.getD 4 0)), (22, .int .u8 (bits .and .u8 (E.getD 4 0) 15)), (23, .bool false), (24, .bool false), (25, undef), (26, undef), (27, undef), (28, .bool false), (29, .agg #[.string ⟨#[]⟩, .int .u64 (numAt E (8, 8)), .int .u64 (numAt E (16, 8)), .bool false]), (5, .pointer (some ⟨w1.heap.size, 0, none⟩))] (SyE w1 #[.string ⟨#[]⟩, .int .u64 (numAt E (8, 8)), .int .u64 (numAt E (16, 8)), .bool false]) (by kernel_rfl) (by kernel_rfl) (fun f hk => ?_) ?_ ?_
          · exact ⟨bY_ (Below.refl _ _), by rw [hk 15 (by decide)]; rfl, fun e => (by rw [hk 15 (by decide)] at e; cases e)⟩
          · exact ⟨RS.StepE.pure 15 (by kernel_rfl) rfl (fun w => by kernel_rfl) (fun f w h => h),
              RS.StepE.call 16 34 #[.int .i64 8, .int .i64 8, .pointer (some ⟨gt, 0, none⟩)] (.int .u64 (numAt E (8, 8))) (by kernel_rfl) (by kernel_rfl) rfl (fun w => by kernel_rfl) (fun f wq h0 p1 p2 h => (num_calls gt ad n c E (8, 8) wq (heap_below h.1 HG.out) HN.out HC.out HM.out.2 (fun j hj => pw_cell_below h.1 (HX.out j hj)) HB.out (by have := HM.out; exact ⟨by decide, by decide, by show 8 + 8 ≤ n; omega⟩)).mono (by rintro e w' ⟨rfl, rfl⟩; exact ⟨rfl, h⟩)),
              RS.StepE.pure 17 (by kernel_rfl) rfl (fun w => by kernel_rfl) (fun f w h => h),
              RS.StepE.call 18 34 #[.int .i64 16, .int .i64 8, .pointer (some ⟨gt, 0, none⟩)] (.int .u64 (numAt E (16, 8))) (by kernel_rfl) (by kernel_rfl) rfl (fun w => by kernel_rfl) (fun f wq h0 p1 p2 h => (num_calls gt ad n c E (16, 8) wq (heap_below h.1 HG.out) HN.out HC.out HM.out.2 (fun j hj => pw_cell_below h.1 (HX.out j hj)) HB.out (by have := HM.out; exact ⟨by decide, by decide, by show 16 + 8 ≤ n; omega⟩)).mono (by rintro e w' ⟨rfl, rfl⟩; exact ⟨rfl, h⟩)),
              RS.StepE.load 19 (.slice (some ad) n c) (by kernel_rfl) (by kernel_rfl) rfl (fun f w h => h) (fun f wq p1 p2 h => run_load rfl (by kernel_rfl) (load_slice ((bC_ (heap_below h.1 HG.out) 0).trans rfl))),
              RS.StepE.load 20 (.pointer (some (ad.add 4))) (by kernel_rfl) (by kernel_rfl) rfl (fun f w h => h) (fun f wq p1 p2 h => run_indexAddr rfl (by kernel_rfl) (by kernel_rfl) (index_b ad n c 4 (by have := HM.out; omega) wq)),
              RS.StepE.load 21 (.int .u8 (E.getD 4 0)) (by kernel_rfl) (by kernel_rfl) rfl (fun f w h => h) (fun f wq p1 p2 h => run_load rfl (by kernel_rfl) (load_cell (k := .u8) Try.underlying5 (pw_cell_below h.1 (HX.out 4 (by rw [HN.out]; have := HM.out; omega))))),
              RS.StepE.load 22 (.int .u8 (bits .and .u8 (E.getD 4 0) 15)) (by kernel_rfl) (by kernel_rfl) rfl (fun f w h => h) (fun f wq p1 p2 h => run_bin rfl (by kernel_rfl) (by kernel_rfl) (by kernel_rfl) (and_u8 wq)),
              RS.StepE.load 23 (.bool false) (by kernel_rfl) (by kernel_rfl) rfl (fun f w h => h) (fun f wq p1 p2 h => run_bin rfl (by kernel_rfl) (by kernel_rfl) (by kernel_rfl) (eql_u8 H2.out wq)),
              RS.StepE.pure 24 (by kernel_rfl) rfl (fun w => by kernel_rfl) (fun f w h => h),
              RS.StepE.off 25 (by kernel_rfl) rfl (by kernel_rfl) (fun f w h => h),
              RS.StepE.off 26 (by kernel_rfl) rfl (by kernel_rfl) (fun f w h => h),
              RS.StepE.off 27 (by kernel_rfl) rfl (by kernel_rfl) (fun f w h => h),
              RS.StepE.pure 28 (by kernel_rfl) rfl (fun w => by kernel_rfl) (fun f w h => h),
              RS.StepE.pure 29 (by kernel_rfl) rfl (fun w => by kernel_rfl) (fun f w h => h),
              RS.StepE.event (.pointer (some ⟨w1.heap.size, 0, none⟩)) (by intro d hd; cases hd; kernel_rfl) (by kernel_rfl) (fun f wq h0 p1 p2 h => by
                    have h0 : f 15 = false := h0
                    obtain ⟨h1, h2, h3⟩ := h
                    rw [h0] at h2
                    have h2 : wq.heap.size = w1.heap.size := h2
                    have e16 : f 16 = false := p2 16 (by kernel_rfl) (by decide)
                    have hr : ∀ {x : Value}, x = .pointer (some ⟨wq.heap.size, 0, none⟩) → True := fun _ => trivial
                    refine ⟨wq.alloc (.cells #[.string ⟨#[]⟩, .int .u64 0, .int .u64 0, .bool false] 38), .inl ?_, bX_ h1 _, by rw [World.size_alloc, h2]; rfl, fun _ => ?_⟩
                    · rw [← h2]
                      kernel_rfl
                    · rw [← h2]
                      show (wq.alloc _).heap[wq.heap.size]? = some (.cells (bif f 16 then _ else _) 38 (0, 0))
                      rw [e16]
                      exact World.alloc_heap_new wq _),
              RS.StepE.event (undef) (by intro d hd; cases hd) (by kernel_rfl) (fun f wq h0 p1 p2 h => by
                    have h0 : f 16 = false := h0
                    have e15 : f 15 = true := p1 15 (by kernel_rfl)
                    obtain ⟨h1, h2, h3⟩ := h
                    have h3 := h3 e15
                    rw [h0] at h3
                    refine ⟨_, .inr ⟨run_store_row (cells := #[.string ⟨#[]⟩, .int .u64 (numAt E (8, 8)), .int .u64 (numAt E (16, 8)), .bool false]) (old := #[.string ⟨#[]⟩, .int .u64 0, .int .u64 0, .bool false]) rfl (by kernel_rfl) (by kernel_rfl) h3 (by kernel_rfl) rfl (by simp [Value.oneCell']), rfl⟩, below_setRow h1 (Nat.le_refl _) _, by have h2 : wq.heap.size = bif f 15 then w1.heap.size + 1 else w1.heap.size := h2; simpa [World.setRow, RS.upd] using h2, fun _ => setRow_heap _ _ _ _ _ _ h3⟩), trivial⟩
          rintro f w2 hk ⟨hs1, -, hs3⟩
          have hs3 := hs3 (hk 15)
          rw [hk 16] at hs3
          (try simp only [List.cons_append, List.nil_append, RS.sets, List.setIfInBounds_toArray, List.set_cons_zero, List.set_cons_succ])
          go_wp2
          go_meet
          case rel => exact ⟨rfl, ⟨hs1⟩, ⟨hs3⟩⟩
      case rest =>
        obtain ⟨rfl, hs1, hs3⟩ := hcut
        have hs1 := hs1.out
        have hs3 := hs3.out
        have hkb : Keeps (fun q => R q ∨ W.heap.size ≤ q) w1 wc := Keeps.of_below hs1 (fun q h _ => h)
        have hdr : Below wc.heap.size wc { wc with drawn := wc.drawn + 1 } := bY_ (Below.refl _ _)
        obtain ⟨w4, hw4⟩ : ∃ w4, { wc with drawn := wc.drawn + 1 } = w4 := ⟨_, rfl⟩
        rw [hw4] at hdr
        have HG2 := Aside0.mk (heap_below hdr (heap_below hs1 HG.out))
        have HX2' := Aside0.mk (show Row8 w4 ad E from fun j hj => pw_cell_below hdr (pw_cell_below hs1 (HX.out j hj)))
        have HZ2 := Aside0.mk (heap_below hdr (heap_below hs1 HZ1.out))
        have HZR2 := Aside0.mk (show 0 < nz → ∃ az, A2 = some az ∧ Row8 w4 az Z from fun h => by
          obtain ⟨az, h1, h2⟩ := HZR.out h
          exact ⟨az, h1, fun j hj => pw_cell_below hdr (pw_cell_below hs1 (h2 j hj))⟩)
        have hkb4 : Keeps (fun q => R q ∨ W.heap.size ≤ q) w1 w4 := hkb.trans (Keeps.of_below hdr (fun q h _ => h))
        have HB14 := Aside0.mk (below_step hs1 hdr)
        have HK4 := Aside0.mk (HK1.out.trans (hkb4.mono (fun q _ h => .inr h)))
        have BK5 := Aside0.mk (heap_below hdr hs3)
        have hsz1 := HK1.out.size
        obtain ⟨g5, hg5⟩ : ∃ g5, w1.heap.size = g5 := ⟨_, rfl⟩
        have HG1 := Aside0.mk hg5
        rw [hg5] at BK5 hsz1 ⊢
        have HG5 := Aside0.mk (show W.heap.size ≤ g5 ∧ g5 ≠ gt ∧ g5 ≠ gz by omega)
        clear hs1 hs3 hkb hdr hkb4 hsz1 hg5 HG HX HZ1 HZR HK1
        have HX2 := HX2'
        clear HX2'
        have hwz : IntKind.u64.wrap (nz : Int) = (nz : Int) := wrapU (by omega) (by omega)
        have HWZ := Aside0.mk hwz
        clear hwz
        obtain ⟨ob, hob⟩ : ∃ ob, decide (numAt E (0, 4) < IntKind.u64.wrap (nz : Int)) = ob := ⟨_, rfl⟩
        have HOB := Aside0.mk hob
        clear hob
        go_upto_region 4 with (fail)
        refine RS.wp_drawn (by kernel_rfl) [(30, .func (.func 34) #[] #[.pointer (some ⟨gt, 0, none⟩)]), (31, .int .u64 (numAt E (0, 4))), (32, .slice A2 nz c2), (33, .int .i64 (nz : Int)), (34, .int .u64 (IntKind.u64.wrap (nz : Int))), (35, .bool ob), (6, .bool ob)] (fun wq => wq = w4) (by kernel_rfl) (by kernel_rfl) ?_ ?_ ?_
        · exact hw4
        · exact ⟨RS.StepOK.pure 30 (by kernel_rfl) rfl (fun w => by kernel_rfl),
            RS.StepOK.call 31 34 #[.int .i64 0, .int .i64 4, .pointer (some ⟨gt, 0, none⟩)] (.int .u64 (numAt E (0, 4))) (by kernel_rfl) (by kernel_rfl) rfl (fun w => by kernel_rfl) (fun wq hS => by subst hS; exact (num_calls gt ad n c E (0, 4) _ HG2.out HN.out HC.out HM.out.2 HX2.out HB.out (by have := HM.out; exact ⟨by decide, by decide, by show 0 + 4 ≤ n; omega⟩)).mono (by rintro e w' ⟨rfl, rfl⟩; exact ⟨rfl, rfl⟩)),
            RS.StepOK.load 32 (.slice A2 nz c2) (by kernel_rfl) (by kernel_rfl) rfl (fun wq hS => by subst hS; exact run_load rfl (by kernel_rfl) (load_slice ((bC_ HZ2.out 0).trans rfl))),
            RS.StepOK.pure 33 (by kernel_rfl) rfl (fun w => by kernel_rfl),
            RS.StepOK.pure 34 (by kernel_rfl) rfl (fun w => by kernel_rfl),
            RS.StepOK.load 35 (.bool ob) (by kernel_rfl) (by kernel_rfl) rfl (fun wq hS => by subst hS; exact run_bin rfl (by kernel_rfl) (by kernel_rfl) (by kernel_rfl) (lss_u64 HOB.out _)),
            RS.StepOK.pure 6 (by kernel_rfl) rfl (fun w => by kernel_rfl), trivial⟩
        rintro wq4 hq4
        subst wq4
        (try simp only [List.cons_append, List.nil_append, RS.sets, List.setIfInBounds_toArray, List.set_cons_zero, List.set_cons_succ])
        clear hw4
        go_upto_if 36 with (fail)
        have honn : 0 ≤ numAt E (0, 4) := (numLE_nn ((HB.out.drop _).take _)).1
        go_cut [6] from 37 (fun v6 wd => v6 = .bool (symE Z E).2 ∧ Aside0 (Keeps (fun q => q = g5) w4 wd) ∧ Aside0 (wd.heap[g5]? = some (.cells (encS (symE Z E).1) 38 (0, 0))))
        case first =>
          cases ob
          · have hno : nameAt Z (numAt E (0, 4)) = none := by
              unfold nameAt
              rw [if_neg]
              rw [HNZ.out]
              have := HOB.out
              rw [HWZ.out] at this
              exact of_decide_eq_false this
            have HSE := Aside0.mk (show symE Z E = (⟨⟨#[]⟩, numAt E (8, 8), numAt E (16, 8), symF E⟩, false) by unfold symE; rw [hno])
            clear hno honn
            go_wp2
            go_meet
            case rel => exact ⟨by rw [HSE.out], ⟨Keeps.refl _ _⟩, ⟨by rw [HSE.out]; unfold encS; rw [HFB.out]; exact BK5.out⟩⟩
          · have hlo : numAt E (0, 4) < (nz : Int) := by
              have := HOB.out
              rw [HWZ.out] at this
              exact of_decide_eq_true this
            obtain ⟨oz, hoz⟩ : ∃ oz : Nat, numAt E (0, 4) = (oz : Int) := ⟨(numAt E (0, 4)).toNat, by omega⟩
            have HOZ := Aside0.mk hoz
            have hol : oz < nz := by omega
            have HOL := Aside0.mk hol
            obtain ⟨az, rfl, hza⟩ := HZR2.out (by omega)
            have HZA := Aside0.mk hza
            have hlz : (Z.drop oz).length = nz - oz := by rw [List.length_drop, HNZ.out]
            have HLZ := Aside0.mk hlz
            clear honn hoz hlo hol hza hlz
            go_upto_region 6 with (fail)
            have hdr : Below w4.heap.size w4 { w4 with drawn := w4.drawn + 1 } := bY_ (Below.refl _ _)
            obtain ⟨w5, hw5⟩ : ∃ w5, { w4 with drawn := w4.drawn + 1 } = w5 := ⟨_, rfl⟩
            rw [hw5] at hdr
            have HG2_ := Aside0.mk (heap_below hdr HG2.out)
            have HX2_ := Aside0.mk (show Row8 w5 ad E from fun j hj => pw_cell_below hdr (HX2.out j hj))
            have HZ2_ := Aside0.mk (heap_below hdr HZ2.out)
            have HRZ := Aside0.mk (show Row8 w5 (az.add oz) (Z.drop oz) from fun j hj => by
              rw [HLZ.out] at hj
              have e1 : (az.add oz).add j = az.add (oz + j) := Addr.add_add _ _ _
              rw [e1, pw_cell_below hdr (HZA.out _ (by rw [HNZ.out]; omega)), List.getD_eq_getElem?_getD, List.getD_eq_getElem?_getD, List.getElem?_drop])
            have BK5_ := Aside0.mk (heap_below hdr BK5.out)
            have HK5 := Aside0.mk (show Keeps (fun q => q = g5) w4 w5 from Keeps.of_below hdr (fun q h _ => h))
            clear HG2 HX2 HZ2 hdr
            have HG2 := HG2_
            have HX2 := HX2_
            have HZ2 := HZ2_
            clear HG2_ HX2_ HZ2_
            refine RS.wp_drawn (by kernel_rfl) [(37, .slice (some az) nz c2), (38, .func (.func 34) #[] #[.pointer (some ⟨gt, 0, none⟩)]), (39, .int .u64 (oz : Int)), (40, .slice (some (az.add oz)) (nz - oz) (c2 - oz)), (7, .slice (some (az.add oz)) (nz - oz) (c2 - oz))] (fun wq => wq = w5) (by kernel_rfl) (by kernel_rfl) ?_ ?_ ?_
            · exact hw5
            · exact ⟨RS.StepOK.load 37 (.slice (some az) nz c2) (by kernel_rfl) (by kernel_rfl) rfl (fun wq hS => by subst hS; exact run_load rfl (by kernel_rfl) (load_slice ((bC_ HZ2.out 0).trans rfl))),
                RS.StepOK.pure 38 (by kernel_rfl) rfl (fun w => by kernel_rfl),
                RS.StepOK.call 39 34 #[.int .i64 0, .int .i64 4, .pointer (some ⟨gt, 0, none⟩)] (.int .u64 (oz : Int)) (by kernel_rfl) (by kernel_rfl) rfl (fun w => by kernel_rfl) (fun wq hS => by subst hS; exact (num_calls gt ad n c E (0, 4) _ HG2.out HN.out HC.out HM.out.2 HX2.out HB.out (by have := HM.out; exact ⟨by decide, by decide, by show 0 + 4 ≤ n; omega⟩)).mono (by rintro e w' ⟨rfl, rfl⟩; exact ⟨by rw [← HOZ.out]; rfl, rfl⟩)),
                RS.StepOK.load 40 (.slice (some (az.add oz)) (nz - oz) (c2 - oz)) (by kernel_rfl) (by kernel_rfl) rfl (fun wq hS => by subst hS; exact run_slice1 rfl (by kernel_rfl) (by kernel_rfl) (slice_from az nz c2 oz HOL.out HC2.out _)),
                RS.StepOK.pure 7 (by kernel_rfl) rfl (fun w => by kernel_rfl), trivial⟩
            rintro wq6 hq6
            subst wq6
            (try simp only [List.cons_append, List.nil_append, RS.sets, List.setIfInBounds_toArray, List.set_cons_zero, List.set_cons_succ])
            clear hw5
            go_upto_if 45 with (go_at_call 36; refine (indexByte_calls (az.add oz) (nz - oz) (c2 - oz) (Z.drop oz) 0 _ HLZ.out HRZ.out).mono ?_; rintro e w7 ⟨rfl, rfl⟩)
            obtain ⟨ix, hix⟩ : ∃ ix, Lib.indexByte (Lib.bytesOf (Z.drop oz)) 0 = ix := ⟨_, rfl⟩
            have HIX := Aside0.mk hix
            have hname : nameAt Z (numAt E (0, 4)) = if 0 ≤ ix then some (strOfNums ((Z.drop oz).take ix.toNat)) else none := by
              unfold nameAt
              rw [HOZ.out, if_pos (by rw [HNZ.out]; have := HOL.out; omega), Int.toNat_natCast, HIX.out]
            have HNM := Aside0.mk hname
            clear hname
            by_cases hi0 : 0 ≤ ix
            · have hil : ix < ((nz - oz : Nat) : Int) := by
                have := indexByte_lt (Lib.bytesOf (Z.drop oz)) 0
                rw [HIX.out] at this
                have h2 : (Lib.bytesOf (Z.drop oz)).length = nz - oz := by rw [← HLZ.out]; simp [Lib.bytesOf]
                rw [h2] at this
                omega
              obtain ⟨e, rfl⟩ : ∃ e : Nat, ix = (e : Int) := ⟨ix.toNat, by omega⟩
              have hen : e ≤ nz - oz := by omega
              have HEN := Aside0.mk hen
              have hnm : nameAt Z (numAt E (0, 4)) = some (strOfNums ((Z.drop oz).take e)) := by rw [HNM.out, if_pos hi0, Int.toNat_natCast]
              have HSE := Aside0.mk (show symE Z E = (⟨strOfNums ((Z.drop oz).take e), numAt E (8, 8), numAt E (16, 8), symF E⟩, true) by unfold symE; rw [hnm])
              have hcut := fun V => slice_to (az.add oz) (nz - oz) (c2 - oz) e hen (by have := HC2.out; omega) V
              have hltk : ((Z.drop oz).take e).length = e := by rw [List.length_take, HLZ.out]; omega
              have hcC : Kd.C (Kd.int .u8) w7 (some (az.add oz)) ((Z.drop oz).take e).length ((Z.drop oz).take e) := row8_C (fun j hj => by
                rw [hltk] at hj
                rw [HRZ.out j (by rw [HLZ.out]; omega), List.getD_eq_getElem?_getD, List.getD_eq_getElem?_getD, List.getElem?_take, if_pos hj]) (by omega)
              rw [hltk] at hcC
              have hconv := Kd.C_string (P := Try.prog) (c := c2 - oz) Try.underlying23 Try.underlying5 Try.underlying9 hcC
              have hf0 : w7.frozen? ⟨g5, 0, none⟩ = false := bF_ BK5_.out 0
              have hc0 : w7.cell? ⟨g5, 0, none⟩ = some (.string ⟨#[]⟩) := (bC_ BK5_.out 0).trans rfl
              have d0 : decide (0 ≤ (e : Int)) = true := decide_eq_true hi0
              rw [HIX.out, d0]
              clear hi0 hil hen hnm hltk hcC hix
              go_wp2
              go_meet
              case rel =>
                refine ⟨by rw [HSE.out], ⟨HK5.out.trans ((Keeps.refl _ _).setCell _ _ rfl)⟩, ⟨?_⟩⟩
                rw [HSE.out]
                unfold encS
                rw [HFB.out]
                exact blk_set1 BK5_.out 0 _
            · have hnm : nameAt Z (numAt E (0, 4)) = none := by rw [HNM.out, if_neg hi0]
              have HSE := Aside0.mk (show symE Z E = (⟨⟨#[]⟩, numAt E (8, 8), numAt E (16, 8), symF E⟩, false) by unfold symE; rw [hnm])
              have d0 : decide (0 ≤ ix) = false := decide_eq_false hi0
              rw [HIX.out, d0]
              clear hi0 hnm hix
              go_wp2
              go_meet
              case rel => exact ⟨by rw [HSE.out], ⟨HK5.out⟩, ⟨by rw [HSE.out]; unfold encS; rw [HFB.out]; exact BK5_.out⟩⟩
        case rest =>
          obtain ⟨rfl, hkd, hbd⟩ := hcut
          have hkd := hkd.out
          have hbd := hbd.out
          clear honn
          obtain ⟨s0, s1, s2, s3, sb, hy⟩ : ∃ s0 s1 s2 s3 sb, symE Z E = (⟨s0, s1, s2, s3⟩, sb) := ⟨_, _, _, _, _, rfl⟩
          have HSY := Aside0.mk hy
          have hy2 : (symE Z E).2 = sb := by rw [hy]
          have hy1 : (symE Z E).1 = ⟨s0, s1, s2, s3⟩ := by rw [hy]
          rw [hy1] at hbd
          rw [hy2]
          clear hy hy1 hy2
          have hz0 : wc.cell? ⟨g5, 0, none⟩ = some (.string s0) := (bC_ hbd 0).trans rfl
          have hz1 : wc.cell? ⟨g5, 1, none⟩ = some (.int .u64 s1) := (bC_ hbd 1).trans rfl
          have hz2 : wc.cell? ⟨g5, 2, none⟩ = some (.int .u64 s2) := (bC_ hbd 2).trans rfl
          have hz3 : wc.cell? ⟨g5, 3, none⟩ = some (.bool s3) := (bC_ hbd 3).trans rfl
          have HG5d := Aside0.mk (hkd.at_ HG2.out (fun e => HG5.out.2.1 e.symm))
          have HJ5 := Aside0.mk (show J ((symL T Z).take k) wc from hJ _ _ _ HJ1.out (((Keeps.of_below (S := fun q => q = g5) HB14.out (fun q h _ => h)).trans hkd).mono (fun q hq h => by have := HG1.out; omega)))
          have HK5 := Aside0.mk (HK4.out.trans (hkd.mono (fun q _ h => .inr (.inr (by rw [h]; exact HG5.out.1)))))
          clear hkd hbd
          go_upto_region 11 with (fail)
          refine (wpIn_wide (n := 0)).1 ?_
          obtain ⟨yf, ytmps, yassign, ybody, hy, hround⟩ := HY.out ((symL T Z).take k) (⟨s0, s1, s2, s3⟩, sb) suf wc (by rw [← HSY.out]; exact HS1.out) HJ5.out
          simp only [encX, encS] at hy
          gi_wp2
          refine ⟨rfl, hround.mono ?_⟩
          rintro e W3 (⟨rfl, hJ3, hk3⟩ | ⟨rfl, hJx3⟩)
          · have hg3 := hk3.at_ HG5d.out (fun h => by
              rcases h with h | h
              · exact (HRR.out _ h).1 rfl
              · omega)
            have HBX3 := Aside0.mk hg3
            have HJ3 := Aside0.mk hJ3
            have HK3 := Aside0.mk (HK5.out.trans (hk3.mono (fun q _ h => .inr h)))
            clear hg3 hJ3 hk3 hround hy hz0 hz1 hz2 hz3
            gi_wp2
            go_wp2
            refine ⟨⟨k + 1, HKN.out, ?_, ?_, HK3.out⟩, ?_⟩
            · have := HBX3.out
              rw [← HAD.out, HNN.out.1, HNN.out.2] at this
              exact this
            · rw [HS2.out, HSY.out]
              exact HJ3.out
            · have e1 := (cell_of_block HBX3.out).1
              have e2 : boxLen gt W3 = n := by unfold boxLen; rw [e1]
              show boxLen gt W3 < boxLen gt wr
              rw [e2, HBX0.out]
              have := HNN.out.1
              have := HM.out
              omega
          · gi_wp2
            go_wp2
            refine bodyPost_ret (results_none rfl _ _ _) rfl ?_
            exact ⟨⟨_, rfl⟩, .inr ⟨(symL T Z).take k ++ [(⟨s0, s1, s2, s3⟩, sb)], suf, by rw [← HSY.out, List.append_assoc]; exact HS1.out, hJx3⟩⟩
end Go.Proofs.Ytgdhciilobnelaa.B
namespace Go.Proofs.Ytgdhciilobnelaa.B
open Go.RowKit Go.Proofs.YtgdhciilobnelaaW.PrintWords Go.Proofs.YtgdhciilobnelaaW.PrintLast Go.Proofs.YtgdhciilobnelaaW.PrintMore
attribute [local go_sem] max2_int min2_int max_two min_two max_three min_three max_four min_four   -- for this text's walks alone
set_option linter.unusedVariables false
set_option linter.unusedSimpArgs false
def sundialref01_wide.f (a0 : Int) : Option (Int) := some (mn (mx a0 1) 8)
set_option maxHeartbeats 8000000 in
set_option maxRecDepth 100000 in
theorem sundialref01_wide.calls (a0 : Int) (r : Int) (w : World) (h : sundialref01_wide.f a0 = some r) :
    Calls Try.prog 40 #[.int .i64 a0] w fun e w' => e = .returned (.int .i64 r) ∧ Below w.heap.size w w' := by
  have HB := Aside0.mk (Below.refl w.heap.size w)
  have H : (some (mn (mx a0 1) 8)) = some r := h
  clear h
  obtain ⟨ji2, hji2⟩ : ∃ j_ : Int, (mx a0 1) = j_ := ⟨_, rfl⟩
  replace H : (some (mn (ji2) 8)) = some r := by first | (rw [hji2] at H; exact H) | (simp only [hji2] at H ⊢; exact H)
  (try (have hji2l : 1 ≤ ji2 := by (rw [← hji2]; unfold mx; (repeat' split) <;> omega)))
  (try (have hji2m : 0 ≤ ji2 := by omega))
  have hji2_ : (if a0 < 1 then 1 else a0) = ji2 := hji2
  obtain ⟨ji3, hji3⟩ : ∃ j_ : Int, (mn (ji2) 8) = j_ := ⟨_, rfl⟩
  replace H : (some ji3) = some r := by first | (rw [hji3] at H; exact H) | (simp only [hji3] at H ⊢; exact H)
  have hji3_ : (if 8 < (ji2) then 8 else (ji2)) = ji3 := hji3
  obtain rfl := Option.some.inj H
  go_enter Try.func40, Try.ntmps40
  go_wp2
  go_ret
  exact ⟨by first | rfl | (simp [errW_none, errW_some] <;> rfl) | (simp only [← hji2, ← hji3]; first | rfl | (simp [errW_none, errW_some] <;> rfl)) | (simp [*, errW_none, errW_some] <;> rfl), by repeat (first | (with_reducible first | exact HB.out | apply bX_ | apply bW_ | apply bY_) | exact HB.out)⟩
def sundialref01_Bytes.l0 : Nat → Int → Int → List Int → Int → Option (List Int)
  | 0, _, _, _, _ => none
  | k + 1, x0, x1, x5, x6 => (sundialref01_wide.f x1).bind fun t144 => (if x6 < t144 then (if 0 ≤ (IntKind.u64.wrap (wrap64 (8 * x6))) then (if x5.length < 140737488355328 then (sundialref01_Bytes.l0 k x0 x1 (x5 ++ [(shr .u64 x0 (IntKind.u64.wrap (wrap64 (8 * x6)))) % 256]) (wrap64 (x6 + 1))) else (none)) else (none)) else (some x5))
def sundialref01_Bytes.f (k : Nat) (a0 : Int) (a1 : Int) : Option (List Int) := sundialref01_Bytes.l0 k a0 a1 ([] : List Int) 0
set_option maxHeartbeats 8000000 in
set_option maxRecDepth 100000 in
theorem sundialref01_Bytes.calls (k : Nat) (a0 : Int) (a1 : Int) (r : List Int) (w : World) (h : sundialref01_Bytes.f k a0 a1 = some r) :
    Calls Try.prog 32 #[.int .u64 a0, .int .i64 a1] w fun e w' => ∃ v0_ : Value, e = .returned (v0_) ∧ Kd.R (Kd.int .u8) 5 w' w.heap.size (fun _ => True) v0_ r ∧ Below w.heap.size w w' := by
  have HB := Aside0.mk (Below.refl w.heap.size w)
  have H : (sundialref01_Bytes.l0 k a0 a1 ([] : List Int) 0) = some r := h
  clear h
  have H' := Aside0.mk H
  clear H
  go_enter Try.func32, Try.ntmps32
  go_wp2
  go_loopg [5, 6] k (fun kq v5 v6 w' => ∃ (x5_1 : List Int) (x6_1 : Int), v6 = .int .i64 x6_1 ∧ Aside0 (sundialref01_Bytes.l0 kq a0 a1 x5_1 x6_1 = some r) ∧ Aside0 (kq ≤ k) ∧ Aside0 (Kd.R (Kd.int .u8) 5 w' w.heap.size (fun _ => True) v5 x5_1) ∧ Aside0 (Below w.heap.size w w'))
  case atStart => exact ⟨(([] : List Int)), (0), (by first | rfl | (simp; done) | (simp [*]; done)), H', ⟨Nat.le_refl _⟩, ⟨by first | exact Kd.R_nil _ _ _ _ _ | exact Kd.N_nil _ _ _ _ _ | exact Kd.V_nil _ _ _ _ _ | exact Kd.Q_nil _ _ _ _ _ | exact Kd.S_nil _ _ _ _ _⟩, ⟨by repeat (first | (with_reducible first | exact HB.out | apply bX_ | apply bW_ | apply bY_) | exact HB.out)⟩⟩
  case round =>
    clear H'
    (try clear p2)
    obtain ⟨x5_1, x6_1, rfl, HA, HK1, HO_5, HB⟩ := hrel
    cases gk with
    | zero => exact absurd HA.out (by simp [sundialref01_Bytes.l0])
    | succ k1 =>
      have H := HA.out
      clear HA
      simp only [sundialref01_Bytes.l0] at H
      replace H := Option.bind_eq_some_iff.mp H
      obtain ⟨t144, A30, H⟩ := H
      replace H : (if x6_1 < t144 then (if 0 ≤ (IntKind.u64.wrap (wrap64 (8 * x6_1))) then (if x5_1.length < 140737488355328 then (sundialref01_Bytes.l0 k1 a0 a1 (x5_1 ++ [(shr .u64 a0 (IntKind.u64.wrap (wrap64 (8 * x6_1)))) % 256]) (wrap64 (x6_1 + 1))) else (none)) else (none)) else (some x5_1)) = some r := H
      have A3 := Aside0.mk A30
      clear A30
      by_cases c4 : x6_1 < t144
      · rw [if_pos c4] at H
        have c4b0 : decide (x6_1 < t144) = true := decide_eq_true c4
        clear c4
        obtain ⟨ji5, hji5⟩ : ∃ j_ : Int, (IntKind.u64.wrap (wrap64 (8 * x6_1))) = j_ := ⟨_, rfl⟩
        replace H : (if 0 ≤ (ji5) then (if x5_1.length < 140737488355328 then (sundialref01_Bytes.l0 k1 a0 a1 (x5_1 ++ [(shr .u64 a0 (ji5)) % 256]) (wrap64 (x6_1 + 1))) else (none)) else (none)) = some r := by first | (rw [hji5] at H; exact H) | (simp only [hji5] at H ⊢; exact H)
        (try rw [hji5] at A3)
        by_cases c6 : 0 ≤ (ji5)
        · rw [if_pos c6] at H
          have c6b0 := eq_true c6
          have c6b1 : decide (0 ≤ (ji5)) = true := decide_eq_true c6
          clear c6
          obtain ⟨ji7, hji7⟩ : ∃ j_ : Int, (shr .u64 a0 (ji5)) = j_ := ⟨_, rfl⟩
          replace H : (if x5_1.length < 140737488355328 then (sundialref01_Bytes.l0 k1 a0 a1 (x5_1 ++ [(ji7) % 256]) (wrap64 (x6_1 + 1))) else (none)) = some r := by first | (rw [hji7] at H; exact H) | (simp only [hji7] at H ⊢; exact H)
          (try rw [hji7] at A3)
          have hji7_ : (a0 / 2 ^ min (ji5).toNat 64) = ji7 := hji7
          have hji7z : (ji5) ≤ 64 → (a0 / 2 ^ (ji5).toNat) = ji7 := shr_small hji7
          by_cases c8 : x5_1.length < 140737488355328
          · rw [if_pos c8] at H
            have LMc8 := Aside0.mk c8
            clear c8
            obtain ⟨y145, hy145⟩ : ∃ y_ : List Int, y_ = (x5_1 ++ [(ji7) % 256]) := ⟨_, rfl⟩
            replace H : (sundialref01_Bytes.l0 k1 a0 a1 y145 (wrap64 (x6_1 + 1))) = some r := by first | (rw [hy145]; with_reducible exact H) | (have H2_ := (Option.bind_some _ _).symm.trans H; rw [hy145]; with_reducible exact H2_) | (have H2_ := (Option.bind_some _ _).symm.trans H; with_reducible exact H2_) | with_reducible exact H | (rw [hy145]; exact H) | exact H
            have Ny145 := Aside0.mk hy145
            clear hy145
            have H' := Aside0.mk H
            clear H
            go_wp2_with (first | ((with_reducible refine gate_callee (f := 40) rfl ?_); refine goesL_ (some 9) rfl rfl Try.func40 (by kernel_rfl) rfl #[.int .i64 a1] rfl (by (try simp only [List.map_toArray, List.map_cons, List.map_nil]); first | done | rfl | (simp only [List.length_drop, List.length_take]; rfl)) ?_; (with_reducible refine (sundialref01_wide.calls a1 t144 _ A3.out).mono ?_); rintro e w9 ⟨rfl, hb⟩; refine ⟨_, rfl, ?_⟩; have n0_ := Aside0.mk (Kd.R_below (by (with_reducible repeat (first | apply Kd.R_alloc | apply Kd.R_drewN | apply Kd.R_drew)); exact HO_5.out) hb); have n1_ := Aside0.mk (below_step (by repeat (first | (with_reducible first | exact HB.out | apply bX_ | apply bW_ | apply bY_) | exact HB.out)) hb); clear HO_5; clear HB; have HO_5 := n0_; have HB := n1_; clear n0_ n1_; (try clear hb); (try clear hb2); (try clear hk); (try clear hi)) | ((with_reducible refine gate_builtin (b := .append) (xs := #[.tmp 13, .tmp 20]) rfl ?_); at_builtin; refine Kd.R_append (Kd.int .u8) (w0 := w) w.heap.size rfl (.tmp 13) (.tmp 20) 23 5 (.int .u8 0) 1 rfl Try.underlying23 info5 rfl (by decide) (by omega) u5 x5_1 ((ji7) % 256) [.int .u8 ((ji7) % 256)] (fun _ => True) (fun _ => False) rfl rfl ?aP (fun _ hk => hk.elim) ?aF ?aO ?aB ?aS ?aL ?_; (case aP => exact rfl); (case aB => exact (by repeat (first | (with_reducible first | exact HB.out | apply bX_ | apply bW_ | apply bY_) | exact HB.out))); (case aF => exact (fun _ _ => trivial)); (case aO => exact (by (with_reducible repeat (first | apply Kd.R_alloc | apply Kd.R_drewN | apply Kd.R_drew)); exact HO_5.out)); (case aS => exact (below_size (by repeat (first | (with_reducible first | exact HB.out | apply bX_ | apply bW_ | apply bY_) | exact HB.out)))); (case aL => have := LMc8.out; omega); intro v146 w10 ho hb hg hat; rw [← Ny145.out] at ho; have n0_ := Aside0.mk (hb); have n1_ := Aside0.mk (ho); clear HB; clear HO_5; have HB := n0_; have HO147 := n1_; clear n0_ n1_; clear ho hb hg hat))
            go_roundg k1
            case measure => have := HK1.out; omega
            case rel => exact ⟨(y145), (wrap64 (x6_1 + 1)), (by first | rfl | (simp; done) | (simp [*]; done)), H', ⟨by have := HK1.out; omega⟩, ⟨by (with_reducible repeat (first | apply Kd.R_alloc | apply Kd.R_drewN | apply Kd.R_drew)); exact HO147.out⟩, ⟨by repeat (first | (with_reducible first | exact HB.out | apply bX_ | apply bW_ | apply bY_) | exact HB.out)⟩⟩
          · rw [if_neg c8] at H
            exact absurd H (by simp)
        · rw [if_neg c6] at H
          exact absurd H (by simp)
      · rw [if_neg c4] at H
        have c4b0 : decide (x6_1 < t144) = false := decide_eq_false c4
        clear c4
        obtain rfl := Option.some.inj H
        go_wp2_with (first | ((with_reducible refine gate_callee (f := 40) rfl ?_); refine goesL_ (some 9) rfl rfl Try.func40 (by kernel_rfl) rfl #[.int .i64 a1] rfl (by (try simp only [List.map_toArray, List.map_cons, List.map_nil]); first | done | rfl | (simp only [List.length_drop, List.length_take]; rfl)) ?_; (with_reducible refine (sundialref01_wide.calls a1 t144 _ A3.out).mono ?_); rintro e w11 ⟨rfl, hb⟩; refine ⟨_, rfl, ?_⟩; have n0_ := Aside0.mk (Kd.R_below (by (with_reducible repeat (first | apply Kd.R_alloc | apply Kd.R_drewN | apply Kd.R_drew)); exact HO_5.out) hb); have n1_ := Aside0.mk (below_step (by repeat (first | (with_reducible first | exact HB.out | apply bX_ | apply bW_ | apply bY_) | exact HB.out)) hb); clear HO_5; clear HB; have HO_5 := n0_; have HB := n1_; clear n0_ n1_; (try clear hb); (try clear hb2); (try clear hk); (try clear hi)))
        go_ret
        exact ⟨_, by first | rfl | (simp [errW_none, errW_some] <;> rfl) | (simp [*, errW_none, errW_some] <;> rfl), by (with_reducible repeat (first | apply Kd.R_alloc | apply Kd.R_drewN | apply Kd.R_drew)); exact HO_5.out, by repeat (first | (with_reducible first | exact HB.out | apply bX_ | apply bW_ | apply bY_) | exact HB.out)⟩
end Go.Proofs.Ytgdhciilobnelaa.B
