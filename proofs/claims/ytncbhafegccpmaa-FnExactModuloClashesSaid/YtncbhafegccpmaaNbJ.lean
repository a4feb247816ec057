/-
  OWN WORK: neighbours with equal remainders, the other side.
-/
import Derived.Test.YtncbhafegccpmaaNbI
namespace Go.Proofs.Ytncbhafegccpmaa
open Go Go.Own Go.Proofs
set_option maxHeartbeats 4000000
set_option maxRecDepth 20000
set_option linter.unusedSimpArgs false
theorem modQ_at {ls : List (List Int)} {cs : List Int} {m : Int} {i k : Nat} (hi : i < cs.length) (hk : k < cs.length) : modQ ls cs m i k ↔ (cs[i].tmod m = cs[k].tmod m ∧ nbr ls i k) := by simp [modQ, List.getD, hi, hk]
theorem den_specModuloClashes (ls : List (List Int)) (cs : List Int) (m : Int) : Den Try.prog 29 [intss ls, ints cs, .i m] (.tup [intss (modL ls cs m), .i (modC ls cs m)]) := by
  refine den_of_awpG (ghs [] [64, 65]) Try.func29 rfl (by kernel_rfl) (Nat.le_of_ble_eq_true rfl) (by simp only [treeL, AVal.tree, treeL_i, treeL_ints, treeL_append, Bool.and_self, Bool.and_true, Bool.true_and]) (by first | rfl | simp only [treeL, AVal.tree, treeL_i, treeL_ints, treeL_append, Bool.and_self, Bool.and_true, Bool.true_and]) mixed (by kernel_rfl) fun hl => ?_
  simp only [lensL, lens, lensL_i, lensL_mapC, maxI, and_true, true_and] at hl
  rw [Try.ntmps29]
  refine ex_start ?_
  by_cases h1 : OkLists ls
  case neg =>
    obtain ⟨e1, e2⟩ := mod_no (cs := cs) (m := m) h1
    rw [e1, e2]
    simp (config := {decide := true, maxSteps := 1000000}) only [NoH, nilQ, nilA, RechL, ReY, isNew, stepO, XPost, postN, XOk, updN, updU, isEff, avalue, aeff, ASt.eval, ASt.put, ASt.set, ASt.new, Nat.reduceDiv, Nat.reduceAdd, Int.reduceToNat, absV, absC, scalar, alen, acap, conc, flats, live, blkOf, aload, rd, part?, afieldAddr, afield, aindexAddr, cellsOf, afill, places, abuild, optI, asliceV, asliceS, szOk, srcCells, aappend, astore, amakeSlice, abuildSlice, snapL, mapO, treeL, AVal.tree, AVal.flatT, isFlat, ares, isFz, afroz, afrozB, lookupA, lookupH, tops, if_true, if_false, reduceCtorEq, forall_const, ite_true, ite_false, implies_true, walkS, tabS, Try.results29]
    refine callK (den_l23Ok ls) (by first | exact .inl rfl | exact .inr rfl) ?_
    simp (config := {decide := true, maxSteps := 1000000}) only [NoH, nilQ, nilA, RechL, ReY, isNew, stepO, XPost, postN, XOk, updN, updU, isEff, avalue, aeff, ASt.eval, ASt.put, ASt.set, ASt.new, Nat.reduceDiv, Nat.reduceAdd, Int.reduceToNat, absV, absC, scalar, alen, acap, conc, flats, live, blkOf, aload, rd, part?, afieldAddr, afield, aindexAddr, cellsOf, afill, places, abuild, optI, asliceV, asliceS, szOk, srcCells, aappend, astore, amakeSlice, abuildSlice, snapL, mapO, treeL, AVal.tree, AVal.flatT, isFlat, ares, isFz, afroz, afrozB, lookupA, lookupH, tops, if_true, if_false, reduceCtorEq, forall_const, ite_true, ite_false, implies_true, walkS, tabS, Try.results29, h1, mapC_nil]
  have h24 := h1.1
  simp (config := {decide := true, maxSteps := 1000000}) only [NoH, nilQ, nilA, RechL, ReY, isNew, stepO, XPost, postN, XOk, updN, updU, isEff, avalue, aeff, ASt.eval, ASt.put, ASt.set, ASt.new, Nat.reduceDiv, Nat.reduceAdd, Int.reduceToNat, absV, absC, scalar, alen, acap, conc, flats, live, blkOf, aload, rd, part?, afieldAddr, afield, aindexAddr, cellsOf, afill, places, abuild, optI, asliceV, asliceS, szOk, srcCells, aappend, astore, amakeSlice, abuildSlice, snapL, mapO, treeL, AVal.tree, AVal.flatT, isFlat, ares, isFz, afroz, afrozB, lookupA, lookupH, tops, if_true, if_false, reduceCtorEq, forall_const, ite_true, ite_false, implies_true, walkS, tabS, Try.results29]
  refine callK (den_l23Ok ls) (by first | exact .inl rfl | exact .inr rfl) ?_
  simp (config := {decide := true, maxSteps := 1000000}) only [NoH, nilQ, nilA, RechL, ReY, isNew, stepO, XPost, postN, XOk, updN, updU, isEff, avalue, aeff, ASt.eval, ASt.put, ASt.set, ASt.new, Nat.reduceDiv, Nat.reduceAdd, Int.reduceToNat, absV, absC, scalar, alen, acap, conc, flats, live, blkOf, aload, rd, part?, afieldAddr, afield, aindexAddr, cellsOf, afill, places, abuild, optI, asliceV, asliceS, szOk, srcCells, aappend, astore, amakeSlice, abuildSlice, snapL, mapO, treeL, AVal.tree, AVal.flatT, isFlat, ares, isFz, afroz, afrozB, lookupA, lookupH, tops, if_true, if_false, reduceCtorEq, forall_const, ite_true, ite_false, implies_true, walkS, tabS, Try.results29, h1]
  refine callK (den_l00In m 1 1000) (by first | exact .inl rfl | exact .inr rfl) ?_
  by_cases h2 : ModOk m
  case neg =>
    obtain ⟨e1, e2⟩ := mod_bad (cs := cs) h1 h2
    rw [e1, e2]
    have h2' : ¬ (1 ≤ m ∧ m ≤ 1000) := h2
    simp (config := {decide := true, maxSteps := 1000000}) only [NoH, nilQ, nilA, RechL, ReY, isNew, stepO, XPost, postN, XOk, updN, updU, isEff, avalue, aeff, ASt.eval, ASt.put, ASt.set, ASt.new, Nat.reduceDiv, Nat.reduceAdd, Int.reduceToNat, absV, absC, scalar, alen, acap, conc, flats, live, blkOf, aload, rd, part?, afieldAddr, afield, aindexAddr, cellsOf, afill, places, abuild, optI, asliceV, asliceS, szOk, srcCells, aappend, astore, amakeSlice, abuildSlice, snapL, mapO, treeL, AVal.tree, AVal.flatT, isFlat, ares, isFz, afroz, afrozB, lookupA, lookupH, tops, if_true, if_false, reduceCtorEq, forall_const, ite_true, ite_false, implies_true, walkS, tabS, Try.results29, eq_false h2', mapC_nil]
  have h2' : 1 ≤ m ∧ m ≤ 1000 := h2
  simp (config := {decide := true, maxSteps := 1000000}) only [NoH, nilQ, nilA, RechL, ReY, isNew, stepO, XPost, postN, XOk, updN, updU, isEff, avalue, aeff, ASt.eval, ASt.put, ASt.set, ASt.new, Nat.reduceDiv, Nat.reduceAdd, Int.reduceToNat, absV, absC, scalar, alen, acap, conc, flats, live, blkOf, aload, rd, part?, afieldAddr, afield, aindexAddr, cellsOf, afill, places, abuild, optI, asliceV, asliceS, szOk, srcCells, aappend, astore, amakeSlice, abuildSlice, snapL, mapO, treeL, AVal.tree, AVal.flatT, isFlat, ares, isFz, afroz, afrozB, lookupA, lookupH, tops, if_true, if_false, reduceCtorEq, forall_const, ite_true, ite_false, implies_true, walkS, tabS, Try.results29, h2']
  refine callK (den_l23Codes ls cs) (by first | exact .inl rfl | exact .inr rfl) ?_
  by_cases h3 : CodOk ls cs
  case neg =>
    obtain ⟨e1, e2⟩ := mod_cod h1 h2 h3
    rw [e1, e2]
    simp (config := {decide := true, maxSteps := 1000000}) only [NoH, nilQ, nilA, RechL, ReY, isNew, stepO, XPost, postN, XOk, updN, updU, isEff, avalue, aeff, ASt.eval, ASt.put, ASt.set, ASt.new, Nat.reduceDiv, Nat.reduceAdd, Int.reduceToNat, absV, absC, scalar, alen, acap, conc, flats, live, blkOf, aload, rd, part?, afieldAddr, afield, aindexAddr, cellsOf, afill, places, abuild, optI, asliceV, asliceS, szOk, srcCells, aappend, astore, amakeSlice, abuildSlice, snapL, mapO, treeL, AVal.tree, AVal.flatT, isFlat, ares, isFz, afroz, afrozB, lookupA, lookupH, tops, if_true, if_false, reduceCtorEq, forall_const, ite_true, ite_false, implies_true, walkS, tabS, Try.results29, h3, mapC_nil]
  obtain ⟨e1, e2⟩ := mod_yes h1 h2 h3
  rw [e1, e2]
  simp (config := {decide := true, maxSteps := 1000000}) only [NoH, nilQ, nilA, RechL, ReY, isNew, stepO, XPost, postN, XOk, updN, updU, isEff, avalue, aeff, ASt.eval, ASt.put, ASt.set, ASt.new, Nat.reduceDiv, Nat.reduceAdd, Int.reduceToNat, absV, absC, scalar, alen, acap, conc, flats, live, blkOf, aload, rd, part?, afieldAddr, afield, aindexAddr, cellsOf, afill, places, abuild, optI, asliceV, asliceS, szOk, srcCells, aappend, astore, amakeSlice, abuildSlice, snapL, mapO, treeL, AVal.tree, AVal.flatT, isFlat, ares, isFz, afroz, afrozB, lookupA, lookupH, tops, if_true, if_false, reduceCtorEq, forall_const, ite_true, ite_false, implies_true, walkS, tabS, Try.results29, h3]
  refine callK (den_l23Table ls h1) (by first | exact .inl rfl | exact .inr rfl) ?_
  have hc := h3.1
  have hm0 : m ≠ 0 := by omega
  rw [← hc] at h24 ⊢
  have hmt : treeL (mapC (lstC AVal.b) (matB (nbr ls) cs.length)) = true := by
    have := tree_bools (nbr ls) cs.length
    simpa only [AVal.tree] using this
  simp (config := {decide := true, maxSteps := 1000000}) only [NoH, nilQ, nilA, RechL, ReY, isNew, stepO, XPost, postN, XOk, updN, updU, isEff, avalue, aeff, ASt.eval, ASt.put, ASt.set, ASt.new, Nat.reduceDiv, Nat.reduceAdd, Int.reduceToNat, absV, absC, scalar, alen, acap, conc, flats, live, blkOf, aload, rd, part?, afieldAddr, afield, aindexAddr, cellsOf, afill, places, abuild, optI, asliceV, asliceS, szOk, srcCells, aappend, astore, amakeSlice, abuildSlice, snapL, mapO, treeL, AVal.tree, AVal.flatT, isFlat, ares, isFz, afroz, afrozB, lookupA, lookupH, tops, if_true, if_false, reduceCtorEq, forall_const, ite_true, ite_false, implies_true, walkS, tabS, Try.results29, hmt]
  refine ex_loop (fun p : {p : Nat × Nat × Nat // p.1 ≤ cs.length} => mkG (ghs [] [64, 65]) [(1, ints cs), (2, .i m), (8, boolsV (nbr ls) cs.length), (9, .own 24 p.1.2.1 0 (parK (modQ ls cs m) cs.length p.1.1).length), (10, .i p.1.1)] [(24, ⟨p.1.2.1, 1, mapC ints (parK (modQ ls cs m) cs.length p.1.1)⟩)] p.1.2.2 68) (fun p => cs.length - p.1.1) ⟨(0, 0, 1), by simp⟩ ?_ ?_
  · refine weak_mk rfl (by first | exact Nat.le_refl _ | (simp only [mk_gen]; omega)) ?_ ?_ <;> simp (config := {decide := true}) only [w_lookup_nil, w_lookup_cons, ch_ch, ch_lit, lit_ch, wkT, wkH, wkB, WVL, WV_refl', Int.natCast_zero, Int.natCast_add, Int.natCast_one, Nat.sub_self, Nat.sub_zero, List.replicate_zero, List.take_zero, List.nil_append, List.append_nil, fillC_zero, Nat.reduceDiv, Nat.reduceAdd, upd_bk, bk_at, getB_zero, getB_succ, modB_zero, modB_succ, rows_lit, repB_zero, repB_succ, List.length_cons, List.length_nil, upd_upd_same, upd_apply, mk_tmp, mk_heap, mk_gen, lookupA, lookupH, List.getD_cons_zero, List.getD_cons_succ, init_two, tops, Bool.true_and, and_self, and_true, true_and, true_or, if_true, if_false, ite_true, ite_false, reduceCtorEq, reduceIte, parK, mapC_nil]
  · rintro ⟨⟨i, g, G⟩, hi⟩
    have hi' : i ≤ cs.length := hi
    by_cases ilt : i < cs.length
    · have hw : IntKind.i64.wrap ((i : Int) + 1) = ((i + 1 : Nat) : Int) := wrap64 (by omega) (by omega)
      simp (config := {decide := true, maxSteps := 1000000}) only [NoH, nilQ, nilA, RechL, ReY, isNew, stepO, XPost, postN, XOk, updN, updU, isEff, avalue, aeff, ASt.eval, ASt.put, ASt.set, ASt.new, Nat.reduceDiv, Nat.reduceAdd, Int.reduceToNat, absV, absC, scalar, alen, acap, conc, flats, live, blkOf, aload, rd, part?, afieldAddr, afield, aindexAddr, cellsOf, afill, places, abuild, optI, asliceV, asliceS, szOk, srcCells, aappend, astore, amakeSlice, abuildSlice, snapL, mapO, treeL, AVal.tree, AVal.flatT, isFlat, ares, isFz, afroz, afrozB, lookupA, lookupH, tops, if_true, if_false, reduceCtorEq, forall_const, ite_true, ite_false, implies_true, walkS, tabS, Try.results29, hw, ilt]
      refine ex_loop (fun r : {r : Nat × Nat × Nat // i < r.1 ∧ r.1 ≤ cs.length} => mkG (ghs [] [64, 65]) [(1, ints cs), (2, .i m), (8, boolsV (nbr ls) cs.length), (9, .own 24 r.1.2.1 0 (parJ (modQ ls cs m) cs.length i r.1.1).length), (10, .i i), (11, .i r.1.1)] [(24, ⟨r.1.2.1, 1, mapC ints (parJ (modQ ls cs m) cs.length i r.1.1)⟩)] r.1.2.2 68) (fun r => cs.length - r.1.1) ⟨(i + 1, g, G), by simp, ilt⟩ ?_ ?_
      · refine weak_mk rfl (by first | exact Nat.le_refl _ | (simp only [mk_gen]; omega)) ?_ ?_ <;> simp (config := {decide := true}) only [w_lookup_nil, w_lookup_cons, ch_ch, ch_lit, lit_ch, wkT, wkH, wkB, WVL, WV_refl', Int.natCast_zero, Int.natCast_add, Int.natCast_one, Nat.sub_self, Nat.sub_zero, List.replicate_zero, List.take_zero, List.nil_append, List.append_nil, fillC_zero, Nat.reduceDiv, Nat.reduceAdd, upd_bk, bk_at, getB_zero, getB_succ, modB_zero, modB_succ, rows_lit, repB_zero, repB_succ, List.length_cons, List.length_nil, upd_upd_same, upd_apply, mk_tmp, mk_heap, mk_gen, lookupA, lookupH, List.getD_cons_zero, List.getD_cons_succ, init_two, tops, Bool.true_and, and_self, and_true, true_and, true_or, if_true, if_false, ite_true, ite_false, reduceCtorEq, reduceIte, parJ_first]
      · rintro ⟨⟨k, g', G'⟩, hik, hk⟩
        have hik' : i < k := hik
        have hk' : k ≤ cs.length := hk
        have hle : (parJ (modQ ls cs m) cs.length i k).length ≤ 24 * i + 24 := by
          have h1 := parK_le (modQ ls cs m) cs.length h24 i
          have h2 := parRow_le (modQ ls cs m) i k
          rw [parJ, List.length_append]
          omega
        by_cases klt : k < cs.length
        · have hw' : IntKind.i64.wrap ((k : Int) + 1) = ((k + 1 : Nat) : Int) := wrap64 (by omega) (by omega)
          have h8 : ((parJ (modQ ls cs m) cs.length i k).length + 1) * 24 ≤ 140737488355328 := by omega
          have hm2 : cs.length - (k + 1) < cs.length - k := by omega
          have r1 : i < (matB (nbr ls) cs.length).length := by rw [matB_length]; exact ilt
          have r2 : k < (rowB (nbr ls i) cs.length).length := by rw [rowB_length]; exact klt
          have v1 := matB_get (nbr ls) cs.length i ilt
          have v2 := rowB_get (nbr ls i) cs.length k klt
          have eq := modQ_at (ls := ls) (m := m) ilt klt
          by_cases hn : nbr ls i k
          · by_cases hr : cs[i].tmod m = cs[k].tmod m
            · have hq : modQ ls cs m i k := eq.2 ⟨hr, hn⟩
              have ej := parJ_yes (n := cs.length) hik' hq
              generalize hJ : parJ (modQ ls cs m) cs.length i k = J at hle h8 ej
              simp (config := {decide := true, maxSteps := 1000000}) only [NoH, nilQ, nilA, RechL, ReY, isNew, stepO, XPost, postN, XOk, updN, updU, isEff, avalue, aeff, ASt.eval, ASt.put, ASt.set, ASt.new, Nat.reduceDiv, Nat.reduceAdd, Int.reduceToNat, absV, absC, scalar, alen, acap, conc, flats, live, blkOf, aload, rd, part?, afieldAddr, afield, aindexAddr, cellsOf, afill, places, abuild, optI, asliceV, asliceS, szOk, srcCells, aappend, astore, amakeSlice, abuildSlice, snapL, mapO, treeL, AVal.tree, AVal.flatT, isFlat, ares, isFz, afroz, afrozB, lookupA, lookupH, tops, if_true, if_false, reduceCtorEq, forall_const, ite_true, ite_false, implies_true, walkS, tabS, Try.results29, hw', ilt, klt, h8, matB_length, rowB_length, r1, r2, v1, v2, eq_true hn, sem_rem, hm0, eq_true hr, List.replicate_succ, List.flatten_cons, List.flatten_nil]
              refine ⟨⟨(k + 1, G', G' + 1), by omega, klt⟩, ?_, hm2⟩
              have htk : List.take J.length J = J := List.take_of_length_le (by omega)
              refine weak_mk rfl (by first | exact Nat.le_refl _ | (simp only [mk_gen]; omega)) ?_ ?_ <;> simp (config := {decide := true}) only [w_lookup_nil, w_lookup_cons, ch_ch, ch_lit, lit_ch, wkT, wkH, wkB, WVL, WV_refl', Int.natCast_zero, Int.natCast_add, Int.natCast_one, Nat.sub_self, Nat.sub_zero, List.replicate_zero, List.take_zero, List.nil_append, List.append_nil, fillC_zero, Nat.reduceDiv, Nat.reduceAdd, upd_bk, bk_at, getB_zero, getB_succ, modB_zero, modB_succ, rows_lit, repB_zero, repB_succ, List.length_cons, List.length_nil, upd_upd_same, upd_apply, mk_tmp, mk_heap, mk_gen, lookupA, lookupH, List.getD_cons_zero, List.getD_cons_succ, init_two, tops, Bool.true_and, and_self, and_true, true_and, true_or, if_true, if_false, ite_true, ite_false, reduceCtorEq, reduceIte, ej, htk, mapC_append, List.length_append, List.length_cons, List.length_nil, Nat.zero_add]
              first
              | exact WVL_refl _ _ _
              | exact .inr (WVL_refl _ _ _)
            · have hq : ¬ modQ ls cs m i k := fun h => hr (eq.1 h).1
              simp (config := {decide := true, maxSteps := 1000000}) only [NoH, nilQ, nilA, RechL, ReY, isNew, stepO, XPost, postN, XOk, updN, updU, isEff, avalue, aeff, ASt.eval, ASt.put, ASt.set, ASt.new, Nat.reduceDiv, Nat.reduceAdd, Int.reduceToNat, absV, absC, scalar, alen, acap, conc, flats, live, blkOf, aload, rd, part?, afieldAddr, afield, aindexAddr, cellsOf, afill, places, abuild, optI, asliceV, asliceS, szOk, srcCells, aappend, astore, amakeSlice, abuildSlice, snapL, mapO, treeL, AVal.tree, AVal.flatT, isFlat, ares, isFz, afroz, afrozB, lookupA, lookupH, tops, if_true, if_false, reduceCtorEq, forall_const, ite_true, ite_false, implies_true, walkS, tabS, Try.results29, hw', ilt, klt, h8, matB_length, rowB_length, r1, r2, v1, v2, eq_true hn, sem_rem, hm0, eq_false hr]
              refine ⟨⟨(k + 1, g', G'), by omega, klt⟩, ?_, hm2⟩
              refine weak_mk rfl (by first | exact Nat.le_refl _ | (simp only [mk_gen]; omega)) ?_ ?_ <;> simp (config := {decide := true}) only [w_lookup_nil, w_lookup_cons, ch_ch, ch_lit, lit_ch, wkT, wkH, wkB, WVL, WV_refl', Int.natCast_zero, Int.natCast_add, Int.natCast_one, Nat.sub_self, Nat.sub_zero, List.replicate_zero, List.take_zero, List.nil_append, List.append_nil, fillC_zero, Nat.reduceDiv, Nat.reduceAdd, upd_bk, bk_at, getB_zero, getB_succ, modB_zero, modB_succ, rows_lit, repB_zero, repB_succ, List.length_cons, List.length_nil, upd_upd_same, upd_apply, mk_tmp, mk_heap, mk_gen, lookupA, lookupH, List.getD_cons_zero, List.getD_cons_succ, init_two, tops, Bool.true_and, and_self, and_true, true_and, true_or, if_true, if_false, ite_true, ite_false, reduceCtorEq, reduceIte, parJ_no (n := cs.length) hq]
          · have hq : ¬ modQ ls cs m i k := fun h => hn (eq.1 h).2
            simp (config := {decide := true, maxSteps := 1000000}) only [NoH, nilQ, nilA, RechL, ReY, isNew, stepO, XPost, postN, XOk, updN, updU, isEff, avalue, aeff, ASt.eval, ASt.put, ASt.set, ASt.new, Nat.reduceDiv, Nat.reduceAdd, Int.reduceToNat, absV, absC, scalar, alen, acap, conc, flats, live, blkOf, aload, rd, part?, afieldAddr, afield, aindexAddr, cellsOf, afill, places, abuild, optI, asliceV, asliceS, szOk, srcCells, aappend, astore, amakeSlice, abuildSlice, snapL, mapO, treeL, AVal.tree, AVal.flatT, isFlat, ares, isFz, afroz, afrozB, lookupA, lookupH, tops, if_true, if_false, reduceCtorEq, forall_const, ite_true, ite_false, implies_true, walkS, tabS, Try.results29, hw', ilt, klt, h8, matB_length, rowB_length, r1, r2, v1, v2, eq_false hn]
            refine ⟨⟨(k + 1, g', G'), by omega, klt⟩, ?_, hm2⟩
            refine weak_mk rfl (by first | exact Nat.le_refl _ | (simp only [mk_gen]; omega)) ?_ ?_ <;> simp (config := {decide := true}) only [w_lookup_nil, w_lookup_cons, ch_ch, ch_lit, lit_ch, wkT, wkH, wkB, WVL, WV_refl', Int.natCast_zero, Int.natCast_add, Int.natCast_one, Nat.sub_self, Nat.sub_zero, List.replicate_zero, List.take_zero, List.nil_append, List.append_nil, fillC_zero, Nat.reduceDiv, Nat.reduceAdd, upd_bk, bk_at, getB_zero, getB_succ, modB_zero, modB_succ, rows_lit, repB_zero, repB_succ, List.length_cons, List.length_nil, upd_upd_same, upd_apply, mk_tmp, mk_heap, mk_gen, lookupA, lookupH, List.getD_cons_zero, List.getD_cons_succ, init_two, tops, Bool.true_and, and_self, and_true, true_and, true_or, if_true, if_false, ite_true, ite_false, reduceCtorEq, reduceIte, parJ_no (n := cs.length) hq]
        · have e : k = cs.length := by omega
          subst e
          simp (config := {decide := true, maxSteps := 1000000}) only [NoH, nilQ, nilA, RechL, ReY, isNew, stepO, XPost, postN, XOk, updN, updU, isEff, avalue, aeff, ASt.eval, ASt.put, ASt.set, ASt.new, Nat.reduceDiv, Nat.reduceAdd, Int.reduceToNat, absV, absC, scalar, alen, acap, conc, flats, live, blkOf, aload, rd, part?, afieldAddr, afield, aindexAddr, cellsOf, afill, places, abuild, optI, asliceV, asliceS, szOk, srcCells, aappend, astore, amakeSlice, abuildSlice, snapL, mapO, treeL, AVal.tree, AVal.flatT, isFlat, ares, isFz, afroz, afrozB, lookupA, lookupH, tops, if_true, if_false, reduceCtorEq, forall_const, ite_true, ite_false, implies_true, walkS, tabS, Try.results29, hw, klt]
          refine ⟨⟨(i + 1, g', G'), ilt⟩, ?_, by show _ - (i + 1) < _ - i; omega⟩
          have ei : parK (modQ ls cs m) cs.length (i + 1) = parJ (modQ ls cs m) cs.length i cs.length := rfl
          refine weak_mk rfl (by first | exact Nat.le_refl _ | (simp only [mk_gen]; omega)) ?_ ?_ <;> simp (config := {decide := true}) only [w_lookup_nil, w_lookup_cons, ch_ch, ch_lit, lit_ch, wkT, wkH, wkB, WVL, WV_refl', Int.natCast_zero, Int.natCast_add, Int.natCast_one, Nat.sub_self, Nat.sub_zero, List.replicate_zero, List.take_zero, List.nil_append, List.append_nil, fillC_zero, Nat.reduceDiv, Nat.reduceAdd, upd_bk, bk_at, getB_zero, getB_succ, modB_zero, modB_succ, rows_lit, repB_zero, repB_succ, List.length_cons, List.length_nil, upd_upd_same, upd_apply, mk_tmp, mk_heap, mk_gen, lookupA, lookupH, List.getD_cons_zero, List.getD_cons_succ, init_two, tops, Bool.true_and, and_self, and_true, true_and, true_or, if_true, if_false, ite_true, ite_false, reduceCtorEq, reduceIte, ei]
    · have e : i = cs.length := by omega
      subst e
      simp (config := {decide := true, maxSteps := 1000000}) only [NoH, nilQ, nilA, RechL, ReY, isNew, stepO, XPost, postN, XOk, updN, updU, isEff, avalue, aeff, ASt.eval, ASt.put, ASt.set, ASt.new, Nat.reduceDiv, Nat.reduceAdd, Int.reduceToNat, absV, absC, scalar, alen, acap, conc, flats, live, blkOf, aload, rd, part?, afieldAddr, afield, aindexAddr, cellsOf, afill, places, abuild, optI, asliceV, asliceS, szOk, srcCells, aappend, astore, amakeSlice, abuildSlice, snapL, mapO, treeL, AVal.tree, AVal.flatT, isFlat, ares, isFz, afroz, afrozB, lookupA, lookupH, tops, if_true, if_false, reduceCtorEq, forall_const, ite_true, ite_false, implies_true, walkS, tabS, Try.results29, ilt]
end Go.Proofs.Ytncbhafegccpmaa
