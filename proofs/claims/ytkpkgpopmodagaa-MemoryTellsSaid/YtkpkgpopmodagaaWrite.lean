import Derived.Test.YtkpkgpopmodagaaPutB
namespace Go.Proofs.Ytkpkgpopmodagaa.B
open Go.RowKit Go.Proofs.YtkpkgpopmodagaaW.PrintWords Go.Proofs.YtkpkgpopmodagaaW.PrintLast Go.Proofs.YtkpkgpopmodagaaW.PrintMore Go.RF
set_option linter.unusedVariables false
set_option linter.unusedSimpArgs false
attribute [local go_sem] Oper.semAt_some
set_option maxHeartbeats 8000000 in
set_option maxRecDepth 100000 in
theorem write_calls (A0 : Option Addr) (c0 : Nat) (l : List S34) (a : Int) (A2 : Option Addr) (c2 : Nat) (b : List Int) (w : World) (hr0 : Kd.C k34 w A0 l.length l) (hr2 : Kd.C (Kd.int .u8) w A2 b.length b) (hc2 : b.length ≤ c2)
    (hm : l.length ≤ 1000000) (hd : ∀ x ∈ l, x.f2.length ≤ 1000000000) :
    Calls Try.prog 12 #[.slice A0 l.length c0, .int .u64 a, .slice A2 b.length c2] w fun e w' =>
      ∃ v hs, e = .returned (.tuple #[v, .int .i64 (writeE l a b)]) ∧ PO w' w.heap.size v (writeP l a b) hs ∧ Below w.heap.size w w' := by
  have HR := Aside0.mk hr0
  have HR2 := Aside0.mk hr2
  have HDL := Aside0.mk hd
  have hbl := hr2.2.1
  clear hr0 hr2 hd
  refine calls_of_end Try.func12 rfl ?_
  simp only [Try.ntmps12, List.size_toArray, List.length_cons, List.length_nil, Nat.reduceAdd, Nat.reduceSub, Array.replicate_succ, Array.replicate_zero, List.push_toArray, List.append_toArray, List.nil_append, List.cons_append]
  go_wp2_with fail
  have b0 := World.alloc_heap_new w (.cells #[.slice A2 b.length c2] 24)
  have hb0 : Below w.heap.size w (w.alloc (.cells #[.slice A2 b.length c2] 24)) := below_alloc (Below.refl _ _) _
  have hsz : (w.alloc (.cells #[.slice A2 b.length c2] 24)).heap.size = w.heap.size + 1 := World.size_alloc _ _
  generalize w.alloc (.cells #[.slice A2 b.length c2] 24) = w1 at *
  refine (own_calls A0 c0 l w1 (Kd.C_below HR.out hb0) hm HDL.out).mono ?_
  rintro e w2 ⟨v, hs, rfl, hpo, hb⟩
  rw [hsz] at hpo
  replace b0 := heap_below hb b0
  replace hb0 := below_step hb0 hb
  obtain ⟨Av, cv, rfl⟩ := own_slice hpo.own
  have c5 := (cell_of_block b0).1
  have hs2 : w.heap.size < w2.heap.size := (Array.getElem?_eq_some_iff.1 b0).1
  have HPO := Aside0.mk hpo
  have HB := Aside0.mk hb0
  have HB5 := Aside0.mk b0
  clear hpo hb0 hb b0 hsz
  have endp : ∀ (W : World), Keeps (fun _ => False) w2 W → PO W w.heap.size (.slice Av l.length cv) l hs ∧ Below w.heap.size w W := fun W hk => by
    have := HPO.out.keep hk (fun _ _ h => h)
    exact ⟨⟨own_less this.own (by omega), fun j x hx => own_less (this.data j x hx) (by omega), this.apart⟩, HB.out.trans (hk.below HB.out.size (fun _ _ h => h))⟩
  have HE := Aside0.mk endp
  clear endp
  by_cases h1 : b.length > 4096
  · have e1 : decide ((4096 : Int) < (b.length : Int)) = true := decide_eq_true (by omega)
    have E1 := Aside0.mk h1
    clear h1
    go_wp2
    refine end_plain (v := .tuple #[.slice Av l.length cv, .int .i64 2]) rfl (by simp [results, Try.f12, go_sem]) ⟨_, hs, by unfold writeE; rw [if_pos E1.out], ?_⟩
    have := HE.out w2 (Keeps.refl _ _)
    unfold writeP
    rw [if_pos E1.out]
    exact this
  · have e1 : decide ((4096 : Int) < (b.length : Int)) = false := decide_eq_false (by omega)
    have hb4 : b.length ≤ 4096 := by omega
    have H1 := Aside0.mk h1
    by_cases h2 : (gatherP l (chunksP l a b.length 2)).length < b.length
    · have e2 : decide ((gatherP l (chunksP l a b.length 2)).length < b.length) = true := decide_eq_true h2
      have e3 : decide (((gatherP l (chunksP l a b.length 2)).length : Int) < (b.length : Int)) = true := decide_eq_true (by omega)
      have H2 := Aside0.mk h2
      have E0 : writeE l a b = 121 := by unfold writeE; rw [if_neg h1, if_pos h2]
      have P0 : writeP l a b = l := by unfold writeP; rw [if_neg h1, if_pos h2]
      have HE0 := Aside0.mk E0
      have HP0 := Aside0.mk P0
      clear h1 h2 E0 P0
      go_wp2_with fail
      go_region_with (go_at_call 25; refine (gathered_calls A0 c0 l a b.length 2 w2.drew (Kd.C_drew (Kd.C_below HR.out HB.out)) (by omega)).mono ?_; rintro e w3 ⟨v3, rfl, hR3, hb3⟩; obtain ⟨A3, c3, rfl⟩ := Kd.R_slice hR3; have c53 := pw_cell_below hb3 (show w2.drew.cell? _ = _ from c5); have HB3 := Aside0.mk hb3; clear hb3 hR3)
      all_goals
        go_wp2
        refine end_plain (v := .tuple #[.slice Av l.length cv, .int .i64 121]) rfl (by simp [results, Try.f12, go_sem]) ⟨_, hs, by rw [HE0.out], ?_⟩
        rw [HP0.out]
        exact HE.out _ (Keeps.trans (Keeps.drew (Keeps.refl _ _)) (Keeps.of_below HB3.out (fun _ h _ => h)))
    · have e2 : decide ((gatherP l (chunksP l a b.length 2)).length < b.length) = false := decide_eq_false h2
      have e3 : decide (((gatherP l (chunksP l a b.length 2)).length : Int) < (b.length : Int)) = false := decide_eq_false (by omega)
      have H2 := Aside0.mk h2
      have E0 : writeE l a b = 0 := by unfold writeE; rw [if_neg h1, if_neg h2]
      have P0 : writeP l a b = putAllP (chunksP l a b.length 2) l b := by unfold writeP; rw [if_neg h1, if_neg h2]
      have HE0 := Aside0.mk E0
      have HP0 := Aside0.mk P0
      clear h1 h2 E0 P0
      go_wp2_with fail
      go_region_with (go_at_call 25; refine (gathered_calls A0 c0 l a b.length 2 w2.drew (Kd.C_drew (Kd.C_below HR.out HB.out)) (by omega)).mono ?_; rintro e w3 ⟨v3, rfl, hR3, hb3⟩; obtain ⟨A3, c3, rfl⟩ := Kd.R_slice hR3; have c53 := pw_cell_below hb3 (show w2.drew.cell? _ = _ from c5); have HB3 := Aside0.mk hb3; clear hb3 hR3)
      all_goals
        have hpo3 : PO w3 (w.heap.size + 1) (.slice Av l.length cv) l hs := HPO.out.keep (W' := w3) (Keeps.trans (Keeps.drew (Keeps.refl (fun _ => False) w2)) (Keeps.of_below HB3.out (fun _ h _ => h))) (fun _ _ h => h)
        have hb3' : Below w.heap.size w w3 := below_step HB.out (show Below w2.heap.size w2 w3 from ⟨HB3.out.os, HB3.out.tape, HB3.out.output, HB3.out.size, HB3.out.block⟩)
        have b53 : w3.heap[w.heap.size]? = some (.cells #[.slice A2 b.length c2] 24 (0, 0)) := (HB3.out.block _ (by show _ < w2.heap.size; exact hs2)).trans HB5.out
        have hC3 := hpo3.C_
        have hH3 := hpo3.HC
        have hPg : ∀ k, pagesAt (.slice Av l.length cv) l hs k → w.heap.size + 1 ≤ k ∧ k < w3.heap.size := hpo3.lt
        have hHd : ∀ k, headsAt Av k → (Value.slice Av l.length cv).ownBlock = some k := by rintro k ⟨ad, rfl, rfl⟩; rfl
        have hHne : ∀ k j, j < l.length → (Value.slice (hs j).1 0 0).ownBlock = some k → ¬ headsAt Av k := by
          intro k j hj hk hh
          rcases own_type_ne hpo3.own (hpo3.data j _ (List.getElem?_eq_getElem hj)) (by decide) with h' | h'
          · rw [hHd k hh] at h'; cases h'
          · exact h' (by rw [hHd k hh, ownBlock_any _ _ _ 0 0, hk])
        have HP3 := Aside0.mk hpo3
        have HB3' := Aside0.mk hb3'
        have HB53 := Aside0.mk b53
        have HH3 := Aside0.mk hH3
        have hs3 : w.heap.size < w3.heap.size := (Array.getElem?_eq_some_iff.1 b53).1
        clear hpo3 hb3' b53 hH3
        go_wp2_with fail
        refine (parts_calls Av cv l a b.length 2 w3 hC3).mono ?_
        rintro e w4 ⟨rfl, hbx, hb4⟩
        go_wp2_with fail
        have hs4 : w3.heap.size + 5 ≤ w4.heap.size := by have := hbx.lt; omega
        refine wp_range_plain (α := Nat × Nat × Nat) (gf := 36) rfl (enters_of Try.func36 (by kernel_rfl) rfl) (encs := encP hs) (Q := fun k => k = w3.heap.size + 2 ∨ k = w3.heap.size + 1)
          (R := fun k => k = w.heap.size ∨ ∃ j, j < l.length ∧ (Value.slice (hs j).1 0 0).ownBlock = some k) (L := chunksP l a b.length 2)
          (fun W hk => parts_iter _ _ _ _ _ Av cv l hs 2 (mostP l b.length) b.length a W _ (hk.at_ hbx.bn (by simp)) (hk.at_ hbx.bp (by simp)) (hk.at_ hbx.ba (by simp)) (hk.at_ hbx.bm (by simp)) (hk.at_ hbx.bo (by simp)) (by omega)
            ((HH3.out.below hb4).below (hk.below (Nat.le_refl _) (by simp)))
            (fun k hp h => by have h1 := hPg k (.inl (hHd k h)); have := hk.size; omega)
            (fun k h => by
              rcases h with h | ⟨j, hj, h⟩
              · subst h; exact ⟨by omega, by omega, by omega, by omega, by omega, fun hp h => by have h1 := hPg _ (.inl (hHd _ h)); omega⟩
              · have h1 := hPg k (.inr ⟨j, hj, h⟩)
                exact ⟨by omega, by omega, by omega, by omega, by omega, fun hp h2 => hHne k j hj h h2⟩)
            (by omega) (fun hp => by unfold mostP; split <;> omega))
          (fun k h => by omega)
          (fun k h => by
            rcases h with h | ⟨j, hj, h⟩
            · omega
            · have h1 := hPg k (.inr ⟨j, hj, h⟩); omega)
          (fun _ => rfl)
          (fun pre W => Below w.heap.size w W ∧ PO W (w.heap.size + 1) (.slice Av l.length cv) (putAllP pre l b) hs ∧ ∃ Ab, W.heap[w.heap.size]? = some (.cells #[.slice Ab (b.length - countP pre) (c2 - countP pre)] 24 (0, 0)) ∧ (countP pre < b.length → Ab = A2.map (·.add (countP pre))))
          (fun _ _ _ => False)
          (fun s A B hi hk => by
            obtain ⟨h1, h2, Ab, h3, h4⟩ := hi
            refine ⟨h1.trans (hk.below h1.size (fun k hk' h => by omega)), h2.keep hk (fun k hk' h => ?_), Ab, hk.at_ h3 (by omega), h4⟩
            have := hPg k (pagesAt_len ((Alike.refl l).putAll s b).1 hk')
            omega)
          (fun _ _ _ _ h _ => h.elim) ⟨below_step HB3'.out hb4, HP3.out.keep (Keeps.of_below (S := fun _ => False) hb4 (fun _ h _ => h)) (fun _ _ h => h), A2, heap_below hb4 HB53.out, fun h => by cases A2 <;> simp [countP, Addr.add]⟩
          ?_ ?assign ?body ?done ?stop
        case assign =>
          intro lp x W K hK
          simp only [encP]
          gi_wp2
          exact hK
        case stop =>
          intro c pre suf W _ h _
          exact h.elim
        case done =>
          rintro W ⟨hB, hpo, Ab, hbox, hab⟩ hd
          have HDN := Aside0.mk hd
          have HPN := Aside0.mk hpo
          have HBN := Aside0.mk hB
          clear hd hpo hB hab hbox
          go_wp2
          have hkp : Keeps (fun k => k = w4.heap.size) W (W.putObj w4.heap.size (.deferred none)) := (Keeps.refl _ _).putObj _ _ rfl
          refine end_mark (D := w4.heap.size) (v := .tuple #[.slice Av l.length cv, .int .i64 0]) rfl HDN.out (by simp [results, Try.f12, go_sem]) ⟨_, hs, by rw [HE0.out], ?_, HBN.out.trans (hkp.below HBN.out.size (fun k hk h => by omega))⟩
          rw [HP0.out]
          have hpoN := HPN.out.keep hkp (fun k hk h => by have := hPg k (pagesAt_len ((Alike.refl l).putAll (chunksP l a b.length 2) b).1 hk); omega)
          exact ⟨own_less hpoN.own (by omega), fun j x hx => own_less (hpoN.data j x hx) (by omega), hpoN.apart⟩
        case body =>
          rintro lp pre x suf W hL hszW ⟨hB, hpo, Ab, hbox, hab⟩
          have hmem : x ∈ chunks l 2 (mostP l b.length) (b.length : Int).toNat a b.length := by
            show x ∈ chunksP l a b.length 2
            rw [hL]; simp
          have hlen : ∀ y ∈ l, y.f2.length ≤ 9223372036854775807 := fun y hy => by obtain ⟨j, hj, e⟩ := List.mem_iff_getElem.1 hy; exact (HH3.out.rows j y (by rw [List.getElem?_eq_getElem hj, e])).2.1
          have hmst : (0 : Int) < b.length → 1 ≤ mostP l b.length := fun hp => by unfold mostP; split <;> omega
          obtain ⟨hx1, hx2, hx3⟩ := chunks_in l 2 (mostP l b.length) hlen (b.length : Int).toNat a b.length hmst x hmem
          have hx4 := chunks_pos l 2 (mostP l b.length) hlen (b.length : Int).toNat a b.length hmst x hmem
          have htot : countP pre + x.2.2 ≤ b.length := by
            have h1 := chunks_sum l 2 (mostP l b.length) (b.length : Int).toNat a b.length
            have h2 : chunks l 2 (mostP l b.length) (b.length : Int).toNat a b.length = pre ++ x :: suf := hL
            rw [h2] at h1
            simp only [List.map_append, List.map_cons, List.sum_append, List.sum_cons] at h1
            unfold countP
            omega
          have hal := (Alike.refl l).putAll pre b
          obtain ⟨m, hmd⟩ : ∃ m, m = putAllP pre l b := ⟨_, rfl⟩
          rw [← hmd] at hpo hal
          have hxl : l[x.1]? = some (rd_T34 l (x.1 : Int)) := by simp [rd_T34, List.getD_eq_getElem?_getD, List.getElem?_eq_getElem hx1]
          have hxm : m[x.1]? = some (rd_T34 m (x.1 : Int)) := by simp [rd_T34, List.getD_eq_getElem?_getD, List.getElem?_eq_getElem (show x.1 < m.length by have := hal.1; omega)]
          have hlm := (hal.2 _ _ _ hxl hxm).2.2
          obtain ⟨D, hD⟩ := hpo.spot x.1 (by have := hal.1; omega) (by omega)
          have hdx := hpo.data x.1 _ hxm
          rw [hD] at hdx
          have hDb : w.heap.size + 1 ≤ D := own_base hdx D rfl
          have hdata := Kd.C_below HR2.out hB
          obtain ⟨ad2, hA2, hcell⟩ := (Kd.reads_of_C (enc := Value.int .u8) (d := (0 : Int)) (h1 := fun _ => rfl) hdata).2.2 (by omega)
          have hAb := hab (by omega)
          rw [hA2] at hAb
          simp only [Option.map_some] at hAb
          subst hAb
          obtain ⟨t, htd⟩ : ∃ t, t = countP pre := ⟨_, rfl⟩
          rw [← htd] at hbox htot
          obtain ⟨cs, hcs⟩ : ∃ cs, cs = nums .u8 ((b.drop t).take x.2.2) := ⟨_, rfl⟩
          have hcl : cs.length = x.2.2 := by rw [hcs, nums_length, List.length_take, List.length_drop]; omega
          have hsrc : ∀ (j : Nat) (u : Value), cs[j]? = some u → W.drew.cell? ((ad2.add t).add j) = some u := by
            intro j u hu
            have hj : j < x.2.2 := by have := (List.getElem?_eq_some_iff.1 hu).1; omega
            rw [hcs, nums, List.getElem?_map, List.getElem?_take, if_pos hj, List.getElem?_drop, List.getElem?_eq_getElem (by omega)] at hu
            have hc := hcell (t + j) (by omega)
            rw [addr_add_add]
            show W.cell? _ = _
            rw [hc, List.getD_eq_getElem?_getD, List.getElem?_eq_getElem (by omega)]
            simpa using hu
          obtain ⟨i0, hi, hzz⟩ := Option.map_eq_some_iff.1 info5
          simp only [Prod.mk.injEq] at hzz
          obtain ⟨cD, hcD⟩ : ∃ cD, cD = (hs x.1).2 := ⟨_, rfl⟩
          have hcp := run_copy_cells (P := Try.prog) W.drew 24 24 3 5 D x.2.1 x.2.2 (cD - x.2.1) (ad2.add t) (b.length - t) (c2 - t) cs Try.underlying24 (by rw [hi]; simp [hzz.2.1]) (by rw [hcl]; show _ = min _ _; omega) hsrc
            (fun j hj => by
              have hq : x.2.1 + j < (nums .u8 (rd_T34 m (x.1 : Int)).f2).length := by rw [nums_length]; omega
              rw [show W.drew.cell? ⟨D, x.2.1 + j, none⟩ = W.cell? ⟨D, x.2.1 + j, none⟩ from rfl, own_cell hdx (x.2.1 + j) _ (List.getElem?_eq_getElem hq)]; rfl)
            (fun j hj => own_frozen hdx _) (by intro u hu; rw [hcs] at hu; obtain ⟨y, _, rfl⟩ := List.mem_map.1 hu; rfl)
          rw [hcl] at hcp
          have hkc := (Keeps.refl (fun k => k = D) W).drew.trans (keeps_over (g := D) cs W.drew x.2.1)
          have hput := hpo.put x (by have := hal.1; omega) D hD (b.drop t)
          rw [← hcs, show putOne m x (b.drop t) = putAllP (pre ++ [x]) l b by rw [putAllP_snoc, hmd, htd]] at hput
          have hpd : PO (W.drew.setCells D x.2.1 cs) (w.heap.size + 1) (.slice Av l.length cv) (putAllP (pre ++ [x]) l b) hs := by
            refine hput.keep (S := fun _ => False) ?_ (fun _ _ h => h)
            obtain ⟨s1, s2, s3, s4⟩ := setCells_same D cs x.2.1 W
            obtain ⟨t1, t2, t3, t4⟩ := setCells_same D cs x.2.1 W.drew
            refine ⟨by rw [t1, s1]; rfl, by rw [t2, s2]; rfl, by rw [t3, s3]; rfl, by rw [t4, s4]; exact Nat.le_refl _, fun k hk _ => ?_⟩
            have key : ∀ (cs : List Value) (o : Nat) (A B : World), A.heap = B.heap → (A.setCells D o cs).heap = (B.setCells D o cs).heap := by
              intro cs
              induction cs with
              | nil => intro o A B h; exact h
              | cons c cs ih => intro o A B h; exact ih _ _ _ (by simp only [World.setCell, h])
            rw [key cs x.2.1 W.drew W rfl]
          obtain ⟨W5, hW5⟩ : ∃ W5, W.drew.setCells D x.2.1 cs = W5 := ⟨_, rfl⟩
          rw [hW5] at hcp hkc hpd
          have hD1 : D < w3.heap.size := (hPg D (.inr ⟨x.1, hx1, by rw [hD]; rfl⟩)).2
          have hbx5 := hkc.at_ hbox (by omega)
          have c1 := (cell_of_block hbox).1
          have f1 := (cell_of_block hbox).2
          have c51 := (cell_of_block hbx5).1
          have f51 := (cell_of_block hbx5).2
          have hDR : ∃ j, j < l.length ∧ (Value.slice (hs j).1 0 0).ownBlock = some D := ⟨x.1, hx1, by rw [hD]; rfl⟩
          rw [hD, ← hcD]
          simp only [Option.map_some, add_plain]
          have HT := Aside0.mk htd
          have HPD := Aside0.mk hpd
          have HKC := Aside0.mk hkc
          have HBX5 := Aside0.mk hbx5
          have HBB := Aside0.mk hB
          have HDR := Aside0.mk hDR
          have HAA := Aside0.mk hA2
          clear hpd hkc hbx5 hB hpo hbox hab hcell hsrc hdata hcs hcl hW5 hput hmd hmem hlen hmst hL hal hxl hxm hlm hD hdx hPg hHd hHne hDR hbx hb4 htd hA2 hC3 hcD
          have hcnt : countP (pre ++ [x]) = t + x.2.2 := by rw [HT.out]; unfold countP; simp
          have fin : ∀ (Ab' : Option Addr) (n' cc : Nat), n' = b.length - t - x.2.2 → (t + x.2.2 < b.length → Ab' = some (ad2.add (t + x.2.2))) → cc = c2 - (t + x.2.2) →
              Keeps (fun k => (k = w.heap.size ∨ ∃ j, j < l.length ∧ (Value.slice (hs j).1 0 0).ownBlock = some k) ∨ w4.heap.size + 2 ≤ k) W (W5.setCell ⟨w.heap.size, 0, none⟩ (.slice Ab' n' cc)) ∧
              Below w.heap.size w (W5.setCell ⟨w.heap.size, 0, none⟩ (.slice Ab' n' cc)) ∧ PO (W5.setCell ⟨w.heap.size, 0, none⟩ (.slice Ab' n' cc)) (w.heap.size + 1) (.slice Av l.length cv) (putAllP (pre ++ [x]) l b) hs ∧
              ∃ Ab, (W5.setCell ⟨w.heap.size, 0, none⟩ (.slice Ab' n' cc)).heap[w.heap.size]? = some (.cells #[.slice Ab (b.length - countP (pre ++ [x])) (c2 - countP (pre ++ [x]))] 24 (0, 0)) ∧ (countP (pre ++ [x]) < b.length → Ab = A2.map (·.add (countP (pre ++ [x])))) := by
            intro Ab' n' cc hn' hab' hcc
            have hk2 : Keeps (fun k => k = D ∨ k = w.heap.size) W (W5.setCell ⟨w.heap.size, 0, none⟩ (.slice Ab' n' cc)) := Keeps.setCell (HKC.out.mono (fun k _ h => .inl h)) _ _ (.inr rfl)
            refine ⟨hk2.mono (fun k _ h => ?_), HBB.out.trans (hk2.below HBB.out.size (fun k hk h => by omega)), HPD.out.keep (S := fun k => k = w.heap.size) (Keeps.setCell (Keeps.refl _ _) ⟨w.heap.size, 0, none⟩ _ rfl) (fun k hk h => by have := (HPD.out.lt k hk).1; omega), Ab', ?_, ?_⟩
            · rcases h with h | h
              · subst h; exact .inl (.inr HDR.out)
              · exact .inl (.inl h)
            · have := blk_store HBX5.out (.slice Ab' n' cc)
              rw [this, hcnt, hn', hcc, show b.length - t - x.2.2 = b.length - (t + x.2.2) by omega]
            · intro h
              rw [hcnt] at h ⊢
              rw [hab' h, HAA.out]
              rfl
          have FIN := Aside0.mk fin
          clear fin
          gi_wp2
          by_cases hcap : c2 - t = x.2.2
          · rw [hcap] at hcp c1 c51
            have HCAP := Aside0.mk hcap
            clear hcap
            gi_region
            all_goals exact FIN.out _ _ _ rfl (fun h => by have := HCAP.out; omega) (by have := HCAP.out; omega)
          · gi_region
            all_goals exact FIN.out _ _ _ rfl (fun h => by rw [addr_add_add]) (by omega)
end Go.Proofs.Ytkpkgpopmodagaa.B
