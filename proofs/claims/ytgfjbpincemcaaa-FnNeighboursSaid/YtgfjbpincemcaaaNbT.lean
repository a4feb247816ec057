/-
  OWN WORK: symmetric lists lack nothing: the plain law, and the law's own small functions.
-/
import Derived.Test.YtgfjbpincemcaaaNbC
import Derived.Test.YtgfjbpincemcaaaNbK
import Derived.Test.YtgfjbpincemcaaaNbR
namespace Go.Proofs.Ytgfjbpincemcaaa
open Go Go.Own Go.Proofs
set_option maxHeartbeats 4000000
set_option maxRecDepth 20000
set_option linter.unusedSimpArgs false
theorem itR_get {q : Int → Int → Prop} {n : Nat} : ∀ {m i : Nat} (h : i < (itR q n m).length), (itR q n m)[i] = plK (q i) n
  | 0, i, h => by simp [itR] at h
  | m + 1, i, h => by
    have hl := itR_length q n m
    rw [itR_length] at h
    simp only [itR]
    by_cases e : i < m
    · rw [List.getElem_append_left (by omega)]
      exact itR_get _
    · have e' : i = m := by omega
      subst e'
      rw [List.getElem_append_right (by omega)]
      simp [hl]
theorem itR_congr {q q' : Int → Int → Prop} {n : Nat} (h : ∀ i k : Nat, i < n → k < n → (q i k ↔ q' i k)) : ∀ m : Nat, m ≤ n → itR q n m = itR q' n m
  | 0, _ => rfl
  | m + 1, hm => by
    simp only [itR]
    rw [itR_congr h m (by omega), plK_congr fun k hk => h m k (by omega) hk]
theorem rises_plK (q : Int → Prop) (n : Nat) : Rises 0 ((n : Int) - 1) (plK q n) := by
  intro i h
  obtain ⟨m, e, hm, _⟩ := plK_get h
  refine ⟨by rw [e]; omega, fun h0 => ?_⟩
  have := List.pairwise_iff_getElem.1 (sorted_plK q n) (i - 1) i (by omega) h (by omega)
  exact this
theorem okLists_itR {q : Int → Int → Prop} {n : Nat} (hn : n ≤ 24) (hq : ∀ i : Nat, i < n → ¬ q i i) : OkLists (itR q n n) := by
  have hl := itR_length q n n
  refine ⟨by omega, fun i h => ?_⟩
  rw [itR_get h, hl]
  refine ⟨rises_plK _ _, fun hm => ?_⟩
  obtain ⟨m, hm1, hm2, hm3⟩ := mem_plK.1 hm
  have e : i = m := by omega
  subst e
  exact hq i hm1 hm3
theorem nbr_itR {q : Int → Int → Prop} {n i k : Nat} (hi : i < n) (hk : k < n) : nbr (itR q n n) i k ↔ (q i k ∨ q k i) := by
  have hl := itR_length q n n
  rw [nbr_nat (by omega) (by omega), itR_get, itR_get]
  refine or_congr ?_ ?_
  · rw [mem_plK]
    exact ⟨fun ⟨m, h1, h2, h3⟩ => by have e : k = m := by omega
                                     subst e; exact h3, fun h => ⟨k, hk, rfl, h⟩⟩
  · rw [mem_plK]
    exact ⟨fun ⟨m, h1, h2, h3⟩ => by have e : i = m := by omega
                                     subst e; exact h3, fun h => ⟨i, hi, rfl, h⟩⟩
theorem sym_fix {q : Int → Int → Prop} {n : Nat} (hn : n ≤ 24) (hq : ∀ i : Nat, i < n → ¬ q i i) (hs : ∀ i k : Nat, q i k → q k i) :
    symL (itR q n n) (nbr (itR q n n)) = itR q n n ∧ okC (itR q n n) = 0 := by
  obtain ⟨e1, e2⟩ := sym_yes (q := nbr (itR q n n)) (okLists_itR hn hq)
  rw [e1, e2, itR_length]
  exact ⟨itR_congr (fun i k hi hk => by rw [nbr_itR hi hk]; exact ⟨fun h => h.elim id (hs k i), .inl⟩) n (Nat.le_refl _), rfl⟩
theorem nbr_comm {ls : List (List Int)} {i k : Int} (h : nbr ls i k) : nbr ls k i := h.elim .inr .inl
theorem nbr_irr {ls : List (List Int)} (h : OkLists ls) {i : Nat} (hi : i < ls.length) : ¬ nbr ls i i := by
  rw [nbr_nat hi hi]
  exact fun h' => h'.elim (h.2 i hi).2 (h.2 i hi).2
theorem secQ_comm {ls : List (List Int)} {i k : Int} (h : secQ ls i k) : secQ ls k i := by
  obtain ⟨h1, h2, x, hx, h3, h4⟩ := h
  exact ⟨fun e => h1 e.symm, fun h => h2 (nbr_comm h), x, hx, nbr_comm h4, nbr_comm h3⟩
theorem rises_mem {n : Nat} {xs : List Int} (h : Rises 0 ((n : Int) - 1) xs) {y : Int} (hy : y ∈ xs) : ∃ m : Nat, y = m ∧ m < n := by
  obtain ⟨i, hi, rfl⟩ := List.getElem_of_mem hy
  have := (h i hi).1
  exact ⟨xs[i].toNat, by omega, by omega⟩
theorem newR_nil {l row : List Int} (h : ∀ y ∈ row, y ∈ l) : newR l row = [] := by
  unfold newR
  rw [List.filter_eq_nil_iff]
  intro y hy
  have : bp (y ∈ l) = true := by rw [bp_true]; exact h y hy
  simp [this]
theorem full_ok {ls : List (List Int)} (h : OkLists ls) : OkLists (itR (nbr ls) ls.length ls.length) := okLists_itR h.1 fun _ hi => nbr_irr h hi
theorem miss_none {ls : List (List Int)} (h : OkLists ls) : misL (itR (nbr ls) ls.length ls.length) ls = [] ∧ misC (itR (nbr ls) ls.length ls.length) ls = 0 := by
  have hl := itR_length (nbr ls) ls.length ls.length
  obtain ⟨e1, e2⟩ := mis_yes (full_ok h) h hl
  rw [e1, e2]
  refine ⟨?_, rfl⟩
  have key : ∀ i, i ≤ ls.length → missK (itR (nbr ls) ls.length ls.length) ls i = [] := by
    intro i
    induction i with
    | zero => intro _; rfl
    | succ i ih =>
      intro hi
      rw [missK, ih (by omega), List.nil_append]
      unfold missRow
      rw [newR_nil, List.map_nil]
      intro y hy
      have hi' : i < ls.length := by omega
      rw [show ls.getD i [] = ls[i] by simp [List.getD, hi']] at hy
      obtain ⟨m, rfl, hm⟩ := rises_mem (h.2 i hi').1 hy
      rw [show (itR (nbr ls) ls.length ls.length).getD i [] = (itR (nbr ls) ls.length ls.length)[i]'(by omega) by simp [List.getD, hl, hi']]
      rw [itR_get, mem_plK]
      exact ⟨m, hm, rfl, (nbr_nat hi' hm).2 (.inl hy)⟩
  exact key _ (Nat.le_refl _)
theorem npQ_comm {L : List Int} {r i k : Int} (h : npQ L r i k) : npQ L r k i := by
  refine ⟨fun e => h.1 e.symm, ?_⟩
  have e : ∀ x y x' y' : Int, dst x y x' y' = dst x' y' x y := by
    intro x y x' y'
    unfold dst
    rw [show (x - x') * (x - x') + (y - y') * (y - y') = (x' - x) * (x' - x) + (y' - y) * (y' - y) by
      rw [show x - x' = -(x' - x) by omega, show y - y' = -(y' - y) by omega, Int.neg_mul_neg, Int.neg_mul_neg]]
  rw [e]
  exact h.2
theorem den_b10Long (bs : List Int) : Den Try.prog 4 [bytesV bs] (.b (decide (1048576 < bs.length))) := by
  refine den_of_awp Try.func4 rfl (by kernel_rfl) (Nat.le_of_ble_eq_true rfl) (by simp only [treeL, AVal.tree, treeL_i, treeL_ints, treeL_u8, treeL_append, Bool.and_self, Bool.and_true, Bool.true_and]) (by first | rfl | simp only [treeL, AVal.tree, treeL_i, treeL_ints, treeL_u8, treeL_append, Bool.and_self, Bool.and_true, Bool.true_and]) mixed (by kernel_rfl) fun hl => ?_
  simp only [lensL, lens, lensL_i, lensL_mapC, maxI, and_true, true_and] at hl
  rw [Try.ntmps4]
  refine ex_start ?_
  have e : (decide ((1048576 : Int) < (bs.length : Int))) = decide (1048576 < bs.length) := by
    rw [Bool.eq_iff_iff]; simp; omega
  simp (config := { maxSteps := 1000000 }) +decide only [NoH, Old, OldL, nilQ, nilA, RechL, ReY, isNew, stepO, XPost, postN, XOk, updN, updU, isEff, avalue, aeff, ASt.eval, ASt.put, ASt.set, ASt.new, Nat.reduceDiv, Nat.reduceAdd, Int.reduceToNat, absV, absC, scalar, alen, acap, conc, flats, live, blkOf, aload, rd, part?, afieldAddr, afield, aindexAddr, cellsOf, afill, places, abuild, optI, asliceV, asliceS, szOk, srcCells, aappend, astore, amakeSlice, abuildSlice, snapL, mapO, treeL, AVal.tree, AVal.flatT, isFlat, ares, isFz, afroz, afrozB, lookupA, lookupH, tops, if_true, if_false, reduceCtorEq, forall_const, ite_true, ite_false, implies_true, walkS, tabS, Try.results4, e]
theorem den_b10Has (xs : List Int) (y : Int) : Den Try.prog 11 [ints xs, .i y] (.b (bp (y ∈ xs))) := by
  refine den_of_awp Try.func11 rfl (by kernel_rfl) (Nat.le_of_ble_eq_true rfl) (by simp only [treeL, AVal.tree, treeL_i, treeL_ints, treeL_u8, treeL_append, Bool.and_self, Bool.and_true, Bool.true_and]) (by first | rfl | simp only [treeL, AVal.tree, treeL_i, treeL_ints, treeL_u8, treeL_append, Bool.and_self, Bool.and_true, Bool.true_and]) mixed (by kernel_rfl) fun hl => ?_
  simp only [lensL, lens, lensL_i, lensL_mapC, maxI, and_true, true_and] at hl
  rw [Try.ntmps11]
  refine ex_start ?_
  simp (config := { maxSteps := 1000000 }) +decide only [NoH, Old, OldL, nilQ, nilA, RechL, ReY, isNew, stepO, XPost, postN, XOk, updN, updU, isEff, avalue, aeff, ASt.eval, ASt.put, ASt.set, ASt.new, Nat.reduceDiv, Nat.reduceAdd, Int.reduceToNat, absV, absC, scalar, alen, acap, conc, flats, live, blkOf, aload, rd, part?, afieldAddr, afield, aindexAddr, cellsOf, afill, places, abuild, optI, asliceV, asliceS, szOk, srcCells, aappend, astore, amakeSlice, abuildSlice, snapL, mapO, treeL, AVal.tree, AVal.flatT, isFlat, ares, isFz, afroz, afrozB, lookupA, lookupH, tops, if_true, if_false, reduceCtorEq, forall_const, ite_true, ite_false, implies_true, walkS, tabS, Try.results11]
  refine ex_loop (fun k : {k : Nat // k ≤ xs.length ∧ ∀ j (h : j < xs.length), j < k → xs[j] ≠ y} => mk [(0, ints xs), (1, .i y), (5, .i k)] [] 0 18) (fun k => xs.length - k) ⟨0, by simp⟩ ?_ ?_
  · refine weak_mk rfl (by first | exact Nat.le_refl _ | (simp only [mk_gen]; omega)) ?_ ?_ <;> simp +decide only [w_lookup_nil, w_lookup_cons, ch_ch, ch_lit, lit_ch, wkT, wkH, wkB, WVL, WV_refl', Int.natCast_zero, Int.natCast_add, Int.natCast_one, Nat.sub_self, Nat.sub_zero, List.replicate_zero, List.take_zero, List.nil_append, List.append_nil, fillC_zero, Nat.reduceDiv, Nat.reduceAdd, upd_bk, bk_at, getB_zero, getB_succ, modB_zero, modB_succ, rows_lit, repB_zero, repB_succ, List.length_cons, List.length_nil, upd_upd_same, upd_apply, mk_tmp, mk_heap, mk_gen, lookupA, lookupH, List.getD_cons_zero, List.getD_cons_succ, init_two, tops, Bool.true_and, and_self, and_true, true_and, true_or, if_true, if_false, ite_true, ite_false, reduceCtorEq, reduceIte]
  rintro ⟨k, hk, hn⟩
  by_cases hlt : k < xs.length
  case neg =>
    have hno : bp (y ∈ xs) = false := by
      rw [bp_false]
      intro hm
      obtain ⟨j, hj, e⟩ := List.getElem_of_mem hm
      exact hn j hj (by omega) e
    simp (config := { maxSteps := 1000000 }) +decide only [NoH, Old, OldL, nilQ, nilA, RechL, ReY, isNew, stepO, XPost, postN, XOk, updN, updU, isEff, avalue, aeff, ASt.eval, ASt.put, ASt.set, ASt.new, Nat.reduceDiv, Nat.reduceAdd, Int.reduceToNat, absV, absC, scalar, alen, acap, conc, flats, live, blkOf, aload, rd, part?, afieldAddr, afield, aindexAddr, cellsOf, afill, places, abuild, optI, asliceV, asliceS, szOk, srcCells, aappend, astore, amakeSlice, abuildSlice, snapL, mapO, treeL, AVal.tree, AVal.flatT, isFlat, ares, isFz, afroz, afrozB, lookupA, lookupH, tops, if_true, if_false, reduceCtorEq, forall_const, ite_true, ite_false, implies_true, walkS, tabS, Try.results11, hlt, hno]
  have hw : IntKind.i64.wrap ((k : Int) + 1) = ((k + 1 : Nat) : Int) := wrap64 (by omega) (by omega)
  by_cases he : xs[k] = y
  · have hyes : bp (y ∈ xs) = true := by rw [bp_true, ← he]; exact List.getElem_mem hlt
    simp (config := { maxSteps := 1000000 }) +decide only [NoH, Old, OldL, nilQ, nilA, RechL, ReY, isNew, stepO, XPost, postN, XOk, updN, updU, isEff, avalue, aeff, ASt.eval, ASt.put, ASt.set, ASt.new, Nat.reduceDiv, Nat.reduceAdd, Int.reduceToNat, absV, absC, scalar, alen, acap, conc, flats, live, blkOf, aload, rd, part?, afieldAddr, afield, aindexAddr, cellsOf, afill, places, abuild, optI, asliceV, asliceS, szOk, srcCells, aappend, astore, amakeSlice, abuildSlice, snapL, mapO, treeL, AVal.tree, AVal.flatT, isFlat, ares, isFz, afroz, afrozB, lookupA, lookupH, tops, if_true, if_false, reduceCtorEq, forall_const, ite_true, ite_false, implies_true, walkS, tabS, Try.results11, hlt, eq_true he, hyes]
  · simp (config := { maxSteps := 1000000 }) +decide only [NoH, Old, OldL, nilQ, nilA, RechL, ReY, isNew, stepO, XPost, postN, XOk, updN, updU, isEff, avalue, aeff, ASt.eval, ASt.put, ASt.set, ASt.new, Nat.reduceDiv, Nat.reduceAdd, Int.reduceToNat, absV, absC, scalar, alen, acap, conc, flats, live, blkOf, aload, rd, part?, afieldAddr, afield, aindexAddr, cellsOf, afill, places, abuild, optI, asliceV, asliceS, szOk, srcCells, aappend, astore, amakeSlice, abuildSlice, snapL, mapO, treeL, AVal.tree, AVal.flatT, isFlat, ares, isFz, afroz, afrozB, lookupA, lookupH, tops, if_true, if_false, reduceCtorEq, forall_const, ite_true, ite_false, implies_true, walkS, tabS, Try.results11, hlt, eq_false he, hw]
    refine ⟨⟨k + 1, hlt, fun j hj hjk => ?_⟩, ?_, by show _ - (k + 1) < _ - k; omega⟩
    · by_cases e : j = k
      · subst e; exact he
      · exact hn j hj (by omega)
    · refine weak_mk rfl (by first | exact Nat.le_refl _ | (simp only [mk_gen]; omega)) ?_ ?_ <;> simp +decide only [w_lookup_nil, w_lookup_cons, ch_ch, ch_lit, lit_ch, wkT, wkH, wkB, WVL, WV_refl', Int.natCast_zero, Int.natCast_add, Int.natCast_one, Nat.sub_self, Nat.sub_zero, List.replicate_zero, List.take_zero, List.nil_append, List.append_nil, fillC_zero, Nat.reduceDiv, Nat.reduceAdd, upd_bk, bk_at, getB_zero, getB_succ, modB_zero, modB_succ, rows_lit, repB_zero, repB_succ, List.length_cons, List.length_nil, upd_upd_same, upd_apply, mk_tmp, mk_heap, mk_gen, lookupA, lookupH, List.getD_cons_zero, List.getD_cons_succ, init_two, tops, Bool.true_and, and_self, and_true, true_and, true_or, if_true, if_false, ite_true, ite_false, reduceCtorEq, reduceIte]
theorem den_b10Nums (xs : List Int) : Den Try.prog 24 [ints xs, ints xs] (.b true) := by
  refine den_of_awp Try.func24 rfl (by kernel_rfl) (Nat.le_of_ble_eq_true rfl) (by simp only [treeL, AVal.tree, treeL_i, treeL_ints, treeL_u8, treeL_append, Bool.and_self, Bool.and_true, Bool.true_and]) (by first | rfl | simp only [treeL, AVal.tree, treeL_i, treeL_ints, treeL_u8, treeL_append, Bool.and_self, Bool.and_true, Bool.true_and]) mixed (by kernel_rfl) fun hl => ?_
  simp only [lensL, lens, lensL_i, lensL_mapC, maxI, and_true, true_and] at hl
  rw [Try.ntmps24]
  refine ex_start ?_
  simp (config := { maxSteps := 1000000 }) +decide only [NoH, Old, OldL, nilQ, nilA, RechL, ReY, isNew, stepO, XPost, postN, XOk, updN, updU, isEff, avalue, aeff, ASt.eval, ASt.put, ASt.set, ASt.new, Nat.reduceDiv, Nat.reduceAdd, Int.reduceToNat, absV, absC, scalar, alen, acap, conc, flats, live, blkOf, aload, rd, part?, afieldAddr, afield, aindexAddr, cellsOf, afill, places, abuild, optI, asliceV, asliceS, szOk, srcCells, aappend, astore, amakeSlice, abuildSlice, snapL, mapO, treeL, AVal.tree, AVal.flatT, isFlat, ares, isFz, afroz, afrozB, lookupA, lookupH, tops, if_true, if_false, reduceCtorEq, forall_const, ite_true, ite_false, implies_true, walkS, tabS, Try.results24]
  refine ex_loop (fun k : {k : Nat // k ≤ xs.length} => mk [(0, ints xs), (1, ints xs), (5, .i k)] [] 0 26) (fun k => xs.length - k) ⟨0, by simp⟩ ?_ ?_
  · refine weak_mk rfl (by first | exact Nat.le_refl _ | (simp only [mk_gen]; omega)) ?_ ?_ <;> simp +decide only [w_lookup_nil, w_lookup_cons, ch_ch, ch_lit, lit_ch, wkT, wkH, wkB, WVL, WV_refl', Int.natCast_zero, Int.natCast_add, Int.natCast_one, Nat.sub_self, Nat.sub_zero, List.replicate_zero, List.take_zero, List.nil_append, List.append_nil, fillC_zero, Nat.reduceDiv, Nat.reduceAdd, upd_bk, bk_at, getB_zero, getB_succ, modB_zero, modB_succ, rows_lit, repB_zero, repB_succ, List.length_cons, List.length_nil, upd_upd_same, upd_apply, mk_tmp, mk_heap, mk_gen, lookupA, lookupH, List.getD_cons_zero, List.getD_cons_succ, init_two, tops, Bool.true_and, and_self, and_true, true_and, true_or, if_true, if_false, ite_true, ite_false, reduceCtorEq, reduceIte]
  rintro ⟨k, hk⟩
  by_cases hlt : k < xs.length
  case neg => simp (config := { maxSteps := 1000000 }) +decide only [NoH, Old, OldL, nilQ, nilA, RechL, ReY, isNew, stepO, XPost, postN, XOk, updN, updU, isEff, avalue, aeff, ASt.eval, ASt.put, ASt.set, ASt.new, Nat.reduceDiv, Nat.reduceAdd, Int.reduceToNat, absV, absC, scalar, alen, acap, conc, flats, live, blkOf, aload, rd, part?, afieldAddr, afield, aindexAddr, cellsOf, afill, places, abuild, optI, asliceV, asliceS, szOk, srcCells, aappend, astore, amakeSlice, abuildSlice, snapL, mapO, treeL, AVal.tree, AVal.flatT, isFlat, ares, isFz, afroz, afrozB, lookupA, lookupH, tops, if_true, if_false, reduceCtorEq, forall_const, ite_true, ite_false, implies_true, walkS, tabS, Try.results24, hlt]
  have hw : IntKind.i64.wrap ((k : Int) + 1) = ((k + 1 : Nat) : Int) := wrap64 (by omega) (by omega)
  simp (config := { maxSteps := 1000000 }) +decide only [NoH, Old, OldL, nilQ, nilA, RechL, ReY, isNew, stepO, XPost, postN, XOk, updN, updU, isEff, avalue, aeff, ASt.eval, ASt.put, ASt.set, ASt.new, Nat.reduceDiv, Nat.reduceAdd, Int.reduceToNat, absV, absC, scalar, alen, acap, conc, flats, live, blkOf, aload, rd, part?, afieldAddr, afield, aindexAddr, cellsOf, afill, places, abuild, optI, asliceV, asliceS, szOk, srcCells, aappend, astore, amakeSlice, abuildSlice, snapL, mapO, treeL, AVal.tree, AVal.flatT, isFlat, ares, isFz, afroz, afrozB, lookupA, lookupH, tops, if_true, if_false, reduceCtorEq, forall_const, ite_true, ite_false, implies_true, walkS, tabS, Try.results24, hlt, hw]
  refine ⟨⟨k + 1, hlt⟩, ?_, by show _ - (k + 1) < _ - k; omega⟩
  refine weak_mk rfl (by first | exact Nat.le_refl _ | (simp only [mk_gen]; omega)) ?_ ?_ <;> simp +decide only [w_lookup_nil, w_lookup_cons, ch_ch, ch_lit, lit_ch, wkT, wkH, wkB, WVL, WV_refl', Int.natCast_zero, Int.natCast_add, Int.natCast_one, Nat.sub_self, Nat.sub_zero, List.replicate_zero, List.take_zero, List.nil_append, List.append_nil, fillC_zero, Nat.reduceDiv, Nat.reduceAdd, upd_bk, bk_at, getB_zero, getB_succ, modB_zero, modB_succ, rows_lit, repB_zero, repB_succ, List.length_cons, List.length_nil, upd_upd_same, upd_apply, mk_tmp, mk_heap, mk_gen, lookupA, lookupH, List.getD_cons_zero, List.getD_cons_succ, init_two, tops, Bool.true_and, and_self, and_true, true_and, true_or, if_true, if_false, ite_true, ite_false, reduceCtorEq, reduceIte]
theorem den_b10Lists (xs : List (List Int)) : Den Try.prog 10 [intss xs, intss xs] (.b true) := by
  refine den_of_awp Try.func10 rfl (by kernel_rfl) (Nat.le_of_ble_eq_true rfl) (by simp only [treeL, AVal.tree, treeL_i, treeL_ints, treeL_u8, treeL_append, Bool.and_self, Bool.and_true, Bool.true_and]) (by first | rfl | simp only [treeL, AVal.tree, treeL_i, treeL_ints, treeL_u8, treeL_append, Bool.and_self, Bool.and_true, Bool.true_and]) mixed (by kernel_rfl) fun hl => ?_
  simp only [lensL, lens, lensL_i, lensL_mapC, maxI, and_true, true_and] at hl
  rw [Try.ntmps10]
  refine ex_start ?_
  simp (config := { maxSteps := 1000000 }) +decide only [NoH, Old, OldL, nilQ, nilA, RechL, ReY, isNew, stepO, XPost, postN, XOk, updN, updU, isEff, avalue, aeff, ASt.eval, ASt.put, ASt.set, ASt.new, Nat.reduceDiv, Nat.reduceAdd, Int.reduceToNat, absV, absC, scalar, alen, acap, conc, flats, live, blkOf, aload, rd, part?, afieldAddr, afield, aindexAddr, cellsOf, afill, places, abuild, optI, asliceV, asliceS, szOk, srcCells, aappend, astore, amakeSlice, abuildSlice, snapL, mapO, treeL, AVal.tree, AVal.flatT, isFlat, ares, isFz, afroz, afrozB, lookupA, lookupH, tops, if_true, if_false, reduceCtorEq, forall_const, ite_true, ite_false, implies_true, walkS, tabS, Try.results10]
  refine ex_loop (fun k : {k : Nat // k ≤ xs.length} => mk [(0, intss xs), (1, intss xs), (5, .i k)] [] 0 27) (fun k => xs.length - k) ⟨0, by simp⟩ ?_ ?_
  · refine weak_mk rfl (by first | exact Nat.le_refl _ | (simp only [mk_gen]; omega)) ?_ ?_ <;> simp +decide only [w_lookup_nil, w_lookup_cons, ch_ch, ch_lit, lit_ch, wkT, wkH, wkB, WVL, WV_refl', Int.natCast_zero, Int.natCast_add, Int.natCast_one, Nat.sub_self, Nat.sub_zero, List.replicate_zero, List.take_zero, List.nil_append, List.append_nil, fillC_zero, Nat.reduceDiv, Nat.reduceAdd, upd_bk, bk_at, getB_zero, getB_succ, modB_zero, modB_succ, rows_lit, repB_zero, repB_succ, List.length_cons, List.length_nil, upd_upd_same, upd_apply, mk_tmp, mk_heap, mk_gen, lookupA, lookupH, List.getD_cons_zero, List.getD_cons_succ, init_two, tops, Bool.true_and, and_self, and_true, true_and, true_or, if_true, if_false, ite_true, ite_false, reduceCtorEq, reduceIte]
  rintro ⟨k, hk⟩
  by_cases hlt : k < xs.length
  case neg => simp (config := { maxSteps := 1000000 }) +decide only [NoH, Old, OldL, nilQ, nilA, RechL, ReY, isNew, stepO, XPost, postN, XOk, updN, updU, isEff, avalue, aeff, ASt.eval, ASt.put, ASt.set, ASt.new, Nat.reduceDiv, Nat.reduceAdd, Int.reduceToNat, absV, absC, scalar, alen, acap, conc, flats, live, blkOf, aload, rd, part?, afieldAddr, afield, aindexAddr, cellsOf, afill, places, abuild, optI, asliceV, asliceS, szOk, srcCells, aappend, astore, amakeSlice, abuildSlice, snapL, mapO, treeL, AVal.tree, AVal.flatT, isFlat, ares, isFz, afroz, afrozB, lookupA, lookupH, tops, if_true, if_false, reduceCtorEq, forall_const, ite_true, ite_false, implies_true, walkS, tabS, Try.results10, hlt]
  have hw : IntKind.i64.wrap ((k : Int) + 1) = ((k + 1 : Nat) : Int) := wrap64 (by omega) (by omega)
  simp (config := { maxSteps := 1000000 }) +decide only [NoH, Old, OldL, nilQ, nilA, RechL, ReY, isNew, stepO, XPost, postN, XOk, updN, updU, isEff, avalue, aeff, ASt.eval, ASt.put, ASt.set, ASt.new, Nat.reduceDiv, Nat.reduceAdd, Int.reduceToNat, absV, absC, scalar, alen, acap, conc, flats, live, blkOf, aload, rd, part?, afieldAddr, afield, aindexAddr, cellsOf, afill, places, abuild, optI, asliceV, asliceS, szOk, srcCells, aappend, astore, amakeSlice, abuildSlice, snapL, mapO, treeL, AVal.tree, AVal.flatT, isFlat, ares, isFz, afroz, afrozB, lookupA, lookupH, tops, if_true, if_false, reduceCtorEq, forall_const, ite_true, ite_false, implies_true, walkS, tabS, Try.results10, hlt, hw]
  refine callK (den_b10Nums xs[k]) (by first | exact .inl rfl | exact .inr rfl) ?_
  simp (config := { maxSteps := 1000000 }) +decide only [NoH, Old, OldL, nilQ, nilA, RechL, ReY, isNew, stepO, XPost, postN, XOk, updN, updU, isEff, avalue, aeff, ASt.eval, ASt.put, ASt.set, ASt.new, Nat.reduceDiv, Nat.reduceAdd, Int.reduceToNat, absV, absC, scalar, alen, acap, conc, flats, live, blkOf, aload, rd, part?, afieldAddr, afield, aindexAddr, cellsOf, afill, places, abuild, optI, asliceV, asliceS, szOk, srcCells, aappend, astore, amakeSlice, abuildSlice, snapL, mapO, treeL, AVal.tree, AVal.flatT, isFlat, ares, isFz, afroz, afrozB, lookupA, lookupH, tops, if_true, if_false, reduceCtorEq, forall_const, ite_true, ite_false, implies_true, walkS, tabS, Try.results10, hw]
  refine ⟨⟨k + 1, hlt⟩, ?_, by show _ - (k + 1) < _ - k; omega⟩
  refine weak_mk rfl (by first | exact Nat.le_refl _ | (simp only [mk_gen]; omega)) ?_ ?_ <;> simp +decide only [w_lookup_nil, w_lookup_cons, ch_ch, ch_lit, lit_ch, wkT, wkH, wkB, WVL, WV_refl', Int.natCast_zero, Int.natCast_add, Int.natCast_one, Nat.sub_self, Nat.sub_zero, List.replicate_zero, List.take_zero, List.nil_append, List.append_nil, fillC_zero, Nat.reduceDiv, Nat.reduceAdd, upd_bk, bk_at, getB_zero, getB_succ, modB_zero, modB_succ, rows_lit, repB_zero, repB_succ, List.length_cons, List.length_nil, upd_upd_same, upd_apply, mk_tmp, mk_heap, mk_gen, lookupA, lookupH, List.getD_cons_zero, List.getD_cons_succ, init_two, tops, Bool.true_and, and_self, and_true, true_and, true_or, if_true, if_false, ite_true, ite_false, reduceCtorEq, reduceIte]
end Go.Proofs.Ytgfjbpincemcaaa
