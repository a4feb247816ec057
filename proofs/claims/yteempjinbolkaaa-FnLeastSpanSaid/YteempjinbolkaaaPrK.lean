/-
  OWN WORK: the bound by cliques.
-/
import Derived.Test.YteempjinbolkaaaPrJ
namespace Go.Proofs.Yteempjinbolkaaa
open Go Go.Own Go.Proofs
set_option maxHeartbeats 4000000
set_option maxRecDepth 20000
set_option linter.unusedSimpArgs false
theorem mem_comp {L : List Int} {x : Int} : x ∈ Lib.compact (sortI L) ↔ x ∈ L := by
  obtain ⟨_, h2⟩ := compact_sorted (sortI_pairwise L) (sortI L).length (Nat.le_refl _)
  have h3 := h2 x
  constructor
  · intro h
    obtain ⟨j, hj, _, e⟩ := h3.1 h
    rw [← sortI_mem (xs := L), ← e]
    exact List.getElem_mem hj
  · intro h
    rw [← sortI_mem (xs := L)] at h
    obtain ⟨j, hj, e⟩ := List.getElem_of_mem h
    exact h3.2 ⟨j, hj, hj, e⟩
structure BdOk (A : List (List Int)) (r : Int) : Prop where
  up : ∀ d, 1 ≤ d → d ∈ A.flatten → ∀ K, Clq A d K → d * ((K.length : Int) - 1) ≤ r
  lo : r = 0 ∨ ∃ d K, 1 ≤ d ∧ Clq A d K ∧ r = d * ((K.length : Int) - 1)
  nn : 0 ≤ r
structure BdI (A : List (List Int)) (C : List Int) (k : Nat) (r : Int) : Prop where
  up : ∀ j (h : j < C.length), j < k → 1 ≤ C[j] → ∀ K, Clq A C[j] K → C[j] * ((K.length : Int) - 1) ≤ r
  lo : r = 0 ∨ ∃ d K, 1 ≤ d ∧ Clq A d K ∧ r = d * ((K.length : Int) - 1)
  nn : 0 ≤ r
  hi : r ≤ 1000
theorem bdI_zero (A : List (List Int)) (C : List Int) : BdI A C 0 0 := ⟨fun _ _ h => absurd h (Nat.not_lt_zero _), .inl rfl, Int.le_refl _, by omega⟩
theorem bdI_skip {A : List (List Int)} {C : List Int} {k : Nat} {r : Int} (h : BdI A C k r) (hk : k < C.length) (h0 : C[k] = 0) : BdI A C (k + 1) r :=
  ⟨fun j hj hjk h1 => by
    by_cases e : j = k
    · subst e; omega
    · exact h.up j hj (by omega) h1, h.lo, h.nn, h.hi⟩
theorem bdI_take {A : List (List Int)} {C : List Int} {k : Nat} {r : Int} (h : BdI A C k r) (hk : k < C.length) {d : Int} (hd : C[k] = d) (h1 : 1 ≤ d) (h3 : d ≤ 3) {K : List Int} (hK : MaxC A d K) (hn : A.length ≤ 6) : BdI A C (k + 1) (max r (d * ((K.length : Int) - 1))) := by
  subst hd
  have hl := len_le_nxt hK.clq
  have hx := nxt_le hK.clq
  have hb : C[k] * ((K.length : Int) - 1) ≤ 3 * 6 := by
    rcases Int.lt_or_le ((K.length : Int) - 1) 0 with hneg | hpos
    · have := Int.mul_nonpos_of_nonneg_of_nonpos (a := C[k]) (b := (K.length : Int) - 1) (by omega) (by omega)
      omega
    · exact Int.mul_le_mul h3 (by omega) hpos (by omega)
  have hh := h.hi
  have hnn := h.nn
  refine ⟨fun j hj hjk hj1 K' hK' => ?_, ?_, by omega, by omega⟩
  · by_cases e : j = k
    · subst e
      have hm := hK.most K' hK'
      have := Int.mul_le_mul_of_nonneg_left (a := (K'.length : Int) - 1) (b := (K.length : Int) - 1) (c := C[j]) (by omega) (by omega)
      omega
    · have := h.up j hj (by omega) hj1 K' hK'
      omega
  · by_cases e : r ≤ C[k] * ((K.length : Int) - 1)
    · rw [Int.max_eq_right e]
      exact .inr ⟨C[k], K, h1, hK.clq, rfl⟩
    · rw [Int.max_eq_left (by omega)]
      exact h.lo
theorem bdI_end {A : List (List Int)} {r : Int} (h : BdI A (Lib.compact (sortI A.flatten)) (Lib.compact (sortI A.flatten)).length r) : BdOk A r := by
  refine ⟨fun d h1 hd K hK => ?_, h.lo, h.nn⟩
  obtain ⟨j, hj, e⟩ := List.getElem_of_mem (mem_comp.2 hd)
  have := h.up j hj hj (by rw [e]; exact h1) K (by rw [e]; exact hK)
  rw [e] at this
  exact this
theorem deny_CliqueBound {D A : List (List Int)} (h : PrD D A) (B : Int) (hB : 64 ≤ B ∧ B ≤ 20000) : DenY Try.prog 11 [.v (proV D A), xi B] (BdOk A) (fun _ => [.v (proV D A), xi B]) (fun r => .v (.tup [.i r, .i 0])) := by
  refine denY_of_awpG (ghs [] [2]) Try.func11 rfl (by kernel_rfl) (Nat.le_of_ble_eq_true rfl) (by simp +decide only [w_embA_nil, w_embA_cons, w_emb_v, w_emb_ol, w_emb_op, w_emb_agg, w_emb_tup, w_embL_nil, w_embL_cons, embL_i, List.map_cons, List.map_nil, List.nil_append, List.append_nil, List.cons_append, List.nodup_cons, List.nodup_nil, List.mem_cons, List.mem_nil_iff, List.not_mem_nil, ch_ch, ch_lit, lit_ch, Nat.reduceAdd]) mixed (by kernel_rfl) fun hl => ?_
  simp only [xlensL, xlens, lensL, lens, lensL_i, lensL_mapC, xlensL_i, maxI, and_true, true_and] at hl
  rw [Try.ntmps11]
  refine ex_start ?_
  have hn6 := h.few
  have hlA := h.len
  have hB1 : 1 ≤ B ∧ B ≤ 20000 := by omega
  have hsum : lens' A ≤ 36 := by
    have h1 : ∀ ls : List (List Int), (∀ l ∈ ls, l.length ≤ 6) → lens' ls ≤ 6 * ls.length := by
      intro ls
      induction ls with
      | nil => intro _; simp [lens']
      | cons x ls ih =>
        intro hx
        have := ih fun l hl => hx l (by simp [hl])
        have := hx x (by simp)
        simp only [lens', List.map_cons, List.sum_cons, List.length_cons] at *
        omega
    have := h1 A fun l hl => by have := (h.row l hl).1; omega
    omega
  have hfl : A.flatten.length ≤ 1000000 := by rw [flat_len]; omega
  have hsl : (sortI A.flatten).length ≤ 1000000 := by rw [sortI_length]; exact hfl
  have htk : List.take (sortI A.flatten).length (sortI A.flatten) = sortI A.flatten := List.take_length
  have htf : List.take A.flatten.length A.flatten = A.flatten := List.take_length
  simp (config := { maxSteps := 1000000 }) +decide only [NoH, Old, OldL, nilQ, nilA, RechL, ReY, isNew, stepO, XPost, postN, XOk, updN, updU, isEff, avalue, aeff, ASt.eval, ASt.put, ASt.set, ASt.new, Nat.reduceDiv, Nat.reduceAdd, Int.reduceToNat, absV, absC, scalar, alen, acap, conc, flats, live, blkOf, aload, rd, part?, afieldAddr, afield, aindexAddr, cellsOf, afill, places, abuild, optI, asliceV, asliceS, szOk, srcCells, aappend, astore, amakeSlice, abuildSlice, snapL, mapO, treeL, AVal.tree, AVal.flatT, isFlat, ares, isFz, afroz, afrozB, lookupA, lookupH, tops, if_true, if_false, reduceCtorEq, forall_const, ite_true, ite_false, implies_true, walkS, tabS, Try.results11]
  refine callK (den_implValidProblem h) (by first | exact .inl rfl | exact .inr rfl) ?_
  simp (config := { maxSteps := 1000000 }) +decide only [NoH, Old, OldL, nilQ, nilA, RechL, ReY, isNew, stepO, XPost, postN, XOk, updN, updU, isEff, avalue, aeff, ASt.eval, ASt.put, ASt.set, ASt.new, Nat.reduceDiv, Nat.reduceAdd, Int.reduceToNat, absV, absC, scalar, alen, acap, conc, flats, live, blkOf, aload, rd, part?, afieldAddr, afield, aindexAddr, cellsOf, afill, places, abuild, optI, asliceV, asliceS, szOk, srcCells, aappend, astore, amakeSlice, abuildSlice, snapL, mapO, treeL, AVal.tree, AVal.flatT, isFlat, ares, isFz, afroz, afrozB, lookupA, lookupH, tops, if_true, if_false, reduceCtorEq, forall_const, ite_true, ite_false, implies_true, walkS, tabS, Try.results11]
  refine callK (den_budgetValid B) (by first | exact .inl rfl | exact .inr rfl) ?_
  simp (config := { maxSteps := 1000000 }) +decide only [NoH, Old, OldL, nilQ, nilA, RechL, ReY, isNew, stepO, XPost, postN, XOk, updN, updU, isEff, avalue, aeff, ASt.eval, ASt.put, ASt.set, ASt.new, Nat.reduceDiv, Nat.reduceAdd, Int.reduceToNat, absV, absC, scalar, alen, acap, conc, flats, live, blkOf, aload, rd, part?, afieldAddr, afield, aindexAddr, cellsOf, afill, places, abuild, optI, asliceV, asliceS, szOk, srcCells, aappend, astore, amakeSlice, abuildSlice, snapL, mapO, treeL, AVal.tree, AVal.flatT, isFlat, ares, isFz, afroz, afrozB, lookupA, lookupH, tops, if_true, if_false, reduceCtorEq, forall_const, ite_true, ite_false, implies_true, walkS, tabS, Try.results11, eq_true hB1]
  refine callX (denx_Concat A (by omega) (by omega)) (by simp (config := { maxSteps := 1000000 }) +decide only [NoH, Old, OldL, nilQ, nilA, RechL, ReY, isNew, stepO, XPost, postN, XOk, updN, updU, isEff, avalue, aeff, ASt.eval, ASt.put, ASt.set, ASt.new, Nat.reduceDiv, Nat.reduceAdd, Int.reduceToNat, absV, absC, scalar, alen, acap, conc, flats, live, blkOf, aload, rd, part?, afieldAddr, afield, aindexAddr, cellsOf, afill, places, abuild, optI, asliceV, asliceS, szOk, srcCells, aappend, astore, amakeSlice, abuildSlice, snapL, mapO, treeL, AVal.tree, AVal.flatT, isFlat, ares, isFz, afroz, afrozB, lookupA, lookupH, tops, if_true, if_false, reduceCtorEq, forall_const, ite_true, ite_false, implies_true, walkS, tabS, Try.results11]) ?_
  simp (config := { maxSteps := 1000000 }) +decide only [NoH, Old, OldL, nilQ, nilA, RechL, ReY, isNew, stepO, XPost, postN, XOk, updN, updU, isEff, avalue, aeff, ASt.eval, ASt.put, ASt.set, ASt.new, Nat.reduceDiv, Nat.reduceAdd, Int.reduceToNat, absV, absC, scalar, alen, acap, conc, flats, live, blkOf, aload, rd, part?, afieldAddr, afield, aindexAddr, cellsOf, afill, places, abuild, optI, asliceV, asliceS, szOk, srcCells, aappend, astore, amakeSlice, abuildSlice, snapL, mapO, treeL, AVal.tree, AVal.flatT, isFlat, ares, isFz, afroz, afrozB, lookupA, lookupH, tops, if_true, if_false, reduceCtorEq, forall_const, ite_true, ite_false, implies_true, walkS, tabS, Try.results11]
  have hS := denx_sortI A.flatten (by omega)
  have hC := denx_compactI (sortI A.flatten) (by omega)
  simp only [xints, sortI_length] at hS hC
  have htk2 : List.take A.flatten.length (sortI A.flatten) = sortI A.flatten := by rw [← sortI_length A.flatten]; exact htk
  have hmem : ∀ x ∈ Lib.compact (sortI A.flatten), 0 ≤ x ∧ x ≤ 3 := fun x hx => by
    obtain ⟨l, hl1, hl2⟩ := List.mem_flatten.1 (mem_comp.1 hx)
    exact (h.row l hl1).2 x hl2
  have hend : ∀ r, BdI A (Lib.compact (sortI A.flatten)) (Lib.compact (sortI A.flatten)).length r → BdOk A r := fun r => bdI_end
  refine callX (hS) (by simp (config := { maxSteps := 1000000 }) +decide only [NoH, Old, OldL, nilQ, nilA, RechL, ReY, isNew, stepO, XPost, postN, XOk, updN, updU, isEff, avalue, aeff, ASt.eval, ASt.put, ASt.set, ASt.new, Nat.reduceDiv, Nat.reduceAdd, Int.reduceToNat, absV, absC, scalar, alen, acap, conc, flats, live, blkOf, aload, rd, part?, afieldAddr, afield, aindexAddr, cellsOf, afill, places, abuild, optI, asliceV, asliceS, szOk, srcCells, aappend, astore, amakeSlice, abuildSlice, snapL, mapO, treeL, AVal.tree, AVal.flatT, isFlat, ares, isFz, afroz, afrozB, lookupA, lookupH, tops, if_true, if_false, reduceCtorEq, forall_const, ite_true, ite_false, implies_true, walkS, tabS, Try.results11, htf, sortI_length]) ?_
  simp (config := { maxSteps := 1000000 }) +decide only [NoH, Old, OldL, nilQ, nilA, RechL, ReY, isNew, stepO, XPost, postN, XOk, updN, updU, isEff, avalue, aeff, ASt.eval, ASt.put, ASt.set, ASt.new, Nat.reduceDiv, Nat.reduceAdd, Int.reduceToNat, absV, absC, scalar, alen, acap, conc, flats, live, blkOf, aload, rd, part?, afieldAddr, afield, aindexAddr, cellsOf, afill, places, abuild, optI, asliceV, asliceS, szOk, srcCells, aappend, astore, amakeSlice, abuildSlice, snapL, mapO, treeL, AVal.tree, AVal.flatT, isFlat, ares, isFz, afroz, afrozB, lookupA, lookupH, tops, if_true, if_false, reduceCtorEq, forall_const, ite_true, ite_false, implies_true, walkS, tabS, Try.results11]
  refine callX (hC) (by simp (config := { maxSteps := 1000000 }) +decide only [NoH, Old, OldL, nilQ, nilA, RechL, ReY, isNew, stepO, XPost, postN, XOk, updN, updU, isEff, avalue, aeff, ASt.eval, ASt.put, ASt.set, ASt.new, Nat.reduceDiv, Nat.reduceAdd, Int.reduceToNat, absV, absC, scalar, alen, acap, conc, flats, live, blkOf, aload, rd, part?, afieldAddr, afield, aindexAddr, cellsOf, afill, places, abuild, optI, asliceV, asliceS, szOk, srcCells, aappend, astore, amakeSlice, abuildSlice, snapL, mapO, treeL, AVal.tree, AVal.flatT, isFlat, ares, isFz, afroz, afrozB, lookupA, lookupH, tops, if_true, if_false, reduceCtorEq, forall_const, ite_true, ite_false, implies_true, walkS, tabS, Try.results11, htk2, sortI_length]) ?_
  have hCl := compact_le (sortI A.flatten)
  generalize Lib.compact (sortI A.flatten) = C at hmem hend hCl ⊢
  simp (config := { maxSteps := 1000000 }) +decide only [NoH, Old, OldL, nilQ, nilA, RechL, ReY, isNew, stepO, XPost, postN, XOk, updN, updU, isEff, avalue, aeff, ASt.eval, ASt.put, ASt.set, ASt.new, Nat.reduceDiv, Nat.reduceAdd, Int.reduceToNat, absV, absC, scalar, alen, acap, conc, flats, live, blkOf, aload, rd, part?, afieldAddr, afield, aindexAddr, cellsOf, afill, places, abuild, optI, asliceV, asliceS, szOk, srcCells, aappend, astore, amakeSlice, abuildSlice, snapL, mapO, treeL, AVal.tree, AVal.flatT, isFlat, ares, isFz, afroz, afrozB, lookupA, lookupH, tops, if_true, if_false, reduceCtorEq, forall_const, ite_true, ite_false, implies_true, walkS, tabS, Try.results11]
  refine ex_loop (fun p : {p : Nat × Int × Nat // p.1 ≤ C.length ∧ BdI A C p.1 p.2.1} => mkG (ghs [] [2]) [(1, .i B), (2, proP D A), (7, .i p.1.2.1), (26, ints C), (27, .i C.length), (28, .i p.1.1)] [] p.1.2.2 53) (fun p => C.length - p.1.1) ⟨(0, 0, 4), Nat.zero_le _, bdI_zero A C⟩ ?_ ?_
  · refine weak_mk rfl (by first | exact Nat.le_refl _ | (simp only [mk_gen]; omega)) ?_ ?_ <;> simp +decide only [w_lookup_nil, w_lookup_cons, ch_ch, ch_lit, lit_ch, wkT, wkH, wkB, WVL, WV_refl', Int.natCast_zero, Int.natCast_add, Int.natCast_one, Nat.sub_self, Nat.sub_zero, List.replicate_zero, List.take_zero, List.nil_append, List.append_nil, fillC_zero, Nat.reduceDiv, Nat.reduceAdd, upd_bk, bk_at, getB_zero, getB_succ, modB_zero, modB_succ, rows_lit, repB_zero, repB_succ, List.length_cons, List.length_nil, upd_upd_same, upd_apply, mk_tmp, mk_heap, mk_gen, lookupA, lookupH, List.getD_cons_zero, List.getD_cons_succ, init_two, tops, Bool.true_and, and_self, and_true, true_and, true_or, if_true, if_false, ite_true, ite_false, reduceCtorEq, reduceIte]
    exact WV_frz rfl rfl rfl (by simp [len_mapC]) (by rw [List.drop_zero]; exact (List.take_of_length_le (by rw [len_mapC]; simp)).symm) (treeL_mapC _ _ fun _ => rfl)
  rintro ⟨⟨k, r, G⟩, k1, k2⟩
  have k1' : k ≤ C.length := k1
  have k2' : BdI A C k r := k2
  by_cases klt : k < C.length
  case neg =>
    have e : k = C.length := by omega
    subst e
    have kI : ¬ (C.length : Int) < (C.length : Int) := by omega
    simp (config := { maxSteps := 1000000 }) +decide only [NoH, Old, OldL, nilQ, nilA, RechL, ReY, isNew, stepO, XPost, postN, XOk, updN, updU, isEff, avalue, aeff, ASt.eval, ASt.put, ASt.set, ASt.new, Nat.reduceDiv, Nat.reduceAdd, Int.reduceToNat, absV, absC, scalar, alen, acap, conc, flats, live, blkOf, aload, rd, part?, afieldAddr, afield, aindexAddr, cellsOf, afill, places, abuild, optI, asliceV, asliceS, szOk, srcCells, aappend, astore, amakeSlice, abuildSlice, snapL, mapO, treeL, AVal.tree, AVal.flatT, isFlat, ares, isFz, afroz, afrozB, lookupA, lookupH, tops, if_true, if_false, reduceCtorEq, forall_const, ite_true, ite_false, implies_true, walkS, tabS, Try.results11, eq_false kI]
    refine yret r (hend r k2') ?_
    simp (config := { maxSteps := 1000000 }) +decide only [NoH, Old, OldL, nilQ, nilA, RechL, ReY, isNew, stepO, XPost, postN, XOk, updN, updU, isEff, avalue, aeff, ASt.eval, ASt.put, ASt.set, ASt.new, Nat.reduceDiv, Nat.reduceAdd, Int.reduceToNat, absV, absC, scalar, alen, acap, conc, flats, live, blkOf, aload, rd, part?, afieldAddr, afield, aindexAddr, cellsOf, afill, places, abuild, optI, asliceV, asliceS, szOk, srcCells, aappend, astore, amakeSlice, abuildSlice, snapL, mapO, treeL, AVal.tree, AVal.flatT, isFlat, ares, isFz, afroz, afrozB, lookupA, lookupH, tops, if_true, if_false, reduceCtorEq, forall_const, ite_true, ite_false, implies_true, walkS, tabS, Try.results11]
  have kI : (k : Int) < (C.length : Int) := by omega
  have wk : IntKind.i64.wrap ((k : Int) + 1) = ((k + 1 : Nat) : Int) := wrap64 (by omega) (by omega)
  obtain ⟨d0, d3⟩ := hmem _ (List.getElem_mem klt)
  obtain ⟨d, hd⟩ : ∃ d, C[k] = d := ⟨_, rfl⟩
  rw [hd] at d0 d3
  by_cases hz : d = 0
  · simp (config := { maxSteps := 1000000 }) +decide only [NoH, Old, OldL, nilQ, nilA, RechL, ReY, isNew, stepO, XPost, postN, XOk, updN, updU, isEff, avalue, aeff, ASt.eval, ASt.put, ASt.set, ASt.new, Nat.reduceDiv, Nat.reduceAdd, Int.reduceToNat, absV, absC, scalar, alen, acap, conc, flats, live, blkOf, aload, rd, part?, afieldAddr, afield, aindexAddr, cellsOf, afill, places, abuild, optI, asliceV, asliceS, szOk, srcCells, aappend, astore, amakeSlice, abuildSlice, snapL, mapO, treeL, AVal.tree, AVal.flatT, isFlat, ares, isFz, afroz, afrozB, lookupA, lookupH, tops, if_true, if_false, reduceCtorEq, forall_const, ite_true, ite_false, implies_true, walkS, tabS, Try.results11, eq_true kI, klt, hd, eq_true hz, wk]
    refine ⟨⟨(k + 1, r, G), klt, bdI_skip k2' klt (by rw [hd]; exact hz)⟩, ?_, by show C.length - (k + 1) < C.length - k; omega⟩
    refine weak_mk rfl (by first | exact Nat.le_refl _ | (simp only [mk_gen]; omega)) ?_ ?_ <;> simp +decide only [w_lookup_nil, w_lookup_cons, ch_ch, ch_lit, lit_ch, wkT, wkH, wkB, WVL, WV_refl', Int.natCast_zero, Int.natCast_add, Int.natCast_one, Nat.sub_self, Nat.sub_zero, List.replicate_zero, List.take_zero, List.nil_append, List.append_nil, fillC_zero, Nat.reduceDiv, Nat.reduceAdd, upd_bk, bk_at, getB_zero, getB_succ, modB_zero, modB_succ, rows_lit, repB_zero, repB_succ, List.length_cons, List.length_nil, upd_upd_same, upd_apply, mk_tmp, mk_heap, mk_gen, lookupA, lookupH, List.getD_cons_zero, List.getD_cons_succ, init_two, tops, Bool.true_and, and_self, and_true, true_and, true_or, if_true, if_false, ite_true, ite_false, reduceCtorEq, reduceIte]
  have hdd : 1 ≤ d ∧ d ≤ 100 := by omega
  simp (config := { maxSteps := 1000000 }) +decide only [NoH, Old, OldL, nilQ, nilA, RechL, ReY, isNew, stepO, XPost, postN, XOk, updN, updU, isEff, avalue, aeff, ASt.eval, ASt.put, ASt.set, ASt.new, Nat.reduceDiv, Nat.reduceAdd, Int.reduceToNat, absV, absC, scalar, alen, acap, conc, flats, live, blkOf, aload, rd, part?, afieldAddr, afield, aindexAddr, cellsOf, afill, places, abuild, optI, asliceV, asliceS, szOk, srcCells, aappend, astore, amakeSlice, abuildSlice, snapL, mapO, treeL, AVal.tree, AVal.flatT, isFlat, ares, isFz, afroz, afrozB, lookupA, lookupH, tops, if_true, if_false, reduceCtorEq, forall_const, ite_true, ite_false, implies_true, walkS, tabS, Try.results11, eq_true kI, klt, hd, eq_false hz]
  refine callY (deny_MaxClique h d B hdd hB) (by simp (config := { maxSteps := 1000000 }) +decide only [NoH, Old, OldL, nilQ, nilA, RechL, ReY, isNew, stepO, XPost, postN, XOk, updN, updU, isEff, avalue, aeff, ASt.eval, ASt.put, ASt.set, ASt.new, Nat.reduceDiv, Nat.reduceAdd, Int.reduceToNat, absV, absC, scalar, alen, acap, conc, flats, live, blkOf, aload, rd, part?, afieldAddr, afield, aindexAddr, cellsOf, afill, places, abuild, optI, asliceV, asliceS, szOk, srcCells, aappend, astore, amakeSlice, abuildSlice, snapL, mapO, treeL, AVal.tree, AVal.flatT, isFlat, ares, isFz, afroz, afrozB, lookupA, lookupH, tops, if_true, if_false, reduceCtorEq, forall_const, ite_true, ite_false, implies_true, walkS, tabS, Try.results11]) (fun i hi => by simp (config := { maxSteps := 1000000 }) +decide only [NoH, Old, OldL, nilQ, nilA, RechL, ReY, isNew, stepO, XPost, postN, XOk, updN, updU, isEff, avalue, aeff, ASt.eval, ASt.put, ASt.set, ASt.new, Nat.reduceDiv, Nat.reduceAdd, Int.reduceToNat, absV, absC, scalar, alen, acap, conc, flats, live, blkOf, aload, rd, part?, afieldAddr, afield, aindexAddr, cellsOf, afill, places, abuild, optI, asliceV, asliceS, szOk, srcCells, aappend, astore, amakeSlice, abuildSlice, snapL, mapO, treeL, AVal.tree, AVal.flatT, isFlat, ares, isFz, afroz, afrozB, lookupA, lookupH, tops, if_true, if_false, reduceCtorEq, forall_const, ite_true, ite_false, implies_true, walkS, tabS, Try.results11]) ?_
  rintro K hK
  have hl := len_le_nxt hK.clq
  have hx := nxt_le hK.clq
  have w1 : IntKind.i64.wrap ((K.length : Int) - 1) = (K.length : Int) - 1 := wrap64 (by omega) (by omega)
  have hbi := bdI_take k2' klt hd (by omega) d3 hK (by omega)
  have hbh := hbi.hi
  have hb0 : -3 ≤ d * ((K.length : Int) - 1) := by
    rcases Int.lt_or_le ((K.length : Int) - 1) 0 with hneg | hpos
    · have e0 : (K.length : Int) - 1 = -1 := by omega
      rw [e0]
      omega
    · have := Int.mul_nonneg (a := d) (b := (K.length : Int) - 1) (by omega) hpos
      omega
  have w2 : IntKind.i64.wrap (d * ((K.length : Int) - 1)) = d * ((K.length : Int) - 1) := wrap64 (by omega) (by omega)
  simp (config := { maxSteps := 1000000 }) +decide only [NoH, Old, OldL, nilQ, nilA, RechL, ReY, isNew, stepO, XPost, postN, XOk, updN, updU, isEff, avalue, aeff, ASt.eval, ASt.put, ASt.set, ASt.new, Nat.reduceDiv, Nat.reduceAdd, Int.reduceToNat, absV, absC, scalar, alen, acap, conc, flats, live, blkOf, aload, rd, part?, afieldAddr, afield, aindexAddr, cellsOf, afill, places, abuild, optI, asliceV, asliceS, szOk, srcCells, aappend, astore, amakeSlice, abuildSlice, snapL, mapO, treeL, AVal.tree, AVal.flatT, isFlat, ares, isFz, afroz, afrozB, lookupA, lookupH, tops, if_true, if_false, reduceCtorEq, forall_const, ite_true, ite_false, implies_true, walkS, tabS, Try.results11, w1, w2, wk, sem_mx]
  refine ⟨⟨(k + 1, max r (d * ((K.length : Int) - 1)), G + 1), klt, hbi⟩, ?_, by show C.length - (k + 1) < C.length - k; omega⟩
  refine weak_mk rfl (by first | exact Nat.le_refl _ | (simp only [mk_gen]; omega)) ?_ ?_ <;> simp +decide only [w_lookup_nil, w_lookup_cons, ch_ch, ch_lit, lit_ch, wkT, wkH, wkB, WVL, WV_refl', Int.natCast_zero, Int.natCast_add, Int.natCast_one, Nat.sub_self, Nat.sub_zero, List.replicate_zero, List.take_zero, List.nil_append, List.append_nil, fillC_zero, Nat.reduceDiv, Nat.reduceAdd, upd_bk, bk_at, getB_zero, getB_succ, modB_zero, modB_succ, rows_lit, repB_zero, repB_succ, List.length_cons, List.length_nil, upd_upd_same, upd_apply, mk_tmp, mk_heap, mk_gen, lookupA, lookupH, List.getD_cons_zero, List.getD_cons_succ, init_two, tops, Bool.true_and, and_self, and_true, true_and, true_or, if_true, if_false, ite_true, ite_false, reduceCtorEq, reduceIte]
end Go.Proofs.Yteempjinbolkaaa
