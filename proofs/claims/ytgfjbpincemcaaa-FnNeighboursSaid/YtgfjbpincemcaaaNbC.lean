/-
  OWN WORK: missing neighbours.
-/
import Derived.Test.YtgfjbpincemcaaaNbB
import Derived.Test.YtgfjbpincemcaaaMkS
namespace Go.Proofs.Ytgfjbpincemcaaa
open Go Go.Own Go.Proofs
set_option maxHeartbeats 4000000
set_option maxRecDepth 20000
set_option linter.unusedSimpArgs false
noncomputable def missRow (l : List Int) (i : Nat) (row : List Int) : List (List Int) := (newR l row).map fun k => [(i : Int), k]
theorem missRow_nil (l : List Int) (i : Nat) : missRow l i [] = [] := rfl
theorem missRow_yes {l row : List Int} {i : Nat} {y : Int} (h : ¬ y ∈ l) : missRow l i (row ++ [y]) = missRow l i row ++ [[(i : Int), y]] := by
  simp [missRow, newR_yes h]
theorem missRow_no {l row : List Int} {i : Nat} {y : Int} (h : y ∈ l) : missRow l i (row ++ [y]) = missRow l i row := by
  simp [missRow, newR_no h]
theorem missRow_le (l row : List Int) (i : Nat) : (missRow l i row).length ≤ row.length := by
  simpa [missRow] using newR_le l row
noncomputable def missK (ls nd : List (List Int)) : Nat → List (List Int)
  | 0 => []
  | i + 1 => missK ls nd i ++ missRow (ls.getD i []) i (nd.getD i [])
noncomputable def missJ (ls nd : List (List Int)) (i k : Nat) : List (List Int) := missK ls nd i ++ missRow (ls.getD i []) i ((nd.getD i []).take k)
section
variable {ls nd : List (List Int)} {i k : Nat}
theorem missJ_zero : missJ ls nd i 0 = missK ls nd i := by simp [missJ, missRow_nil]
theorem missJ_all (hi : i < nd.length) : missJ ls nd i nd[i].length = missK ls nd (i + 1) := by
  unfold missJ
  rw [show nd.getD i [] = nd[i] by simp [List.getD, hi], List.take_length]
  simp [missK, List.getD, hi]
theorem missJ_yes (hl : i < ls.length) (hi : i < nd.length) (hk : k < nd[i].length) (h : ¬ nd[i][k] ∈ ls[i]) : missJ ls nd i (k + 1) = missJ ls nd i k ++ [[(i : Int), nd[i][k]]] := by
  unfold missJ
  rw [show nd.getD i [] = nd[i] by simp [List.getD, hi], show ls.getD i [] = ls[i] by simp [List.getD, hl], List.take_succ_eq_append_getElem hk, missRow_yes h, List.append_assoc]
theorem missJ_no (hl : i < ls.length) (hi : i < nd.length) (hk : k < nd[i].length) (h : nd[i][k] ∈ ls[i]) : missJ ls nd i (k + 1) = missJ ls nd i k := by
  unfold missJ
  rw [show nd.getD i [] = nd[i] by simp [List.getD, hi], show ls.getD i [] = ls[i] by simp [List.getD, hl], List.take_succ_eq_append_getElem hk, missRow_no h]
end
theorem row24 {nd : List (List Int)} (h : OkLists nd) (i : Nat) : (nd.getD i []).length ≤ 24 := by
  by_cases hi : i < nd.length
  · have := rises_len (h.2 i hi).1
    have := h.1
    simp [List.getD, hi]
    omega
  · simp [List.getD, List.getElem?_eq_none (Nat.le_of_not_lt hi)]
theorem missK_le {nd : List (List Int)} (ls : List (List Int)) (h : OkLists nd) : ∀ i, (missK ls nd i).length ≤ 24 * i
  | 0 => by simp [missK]
  | i + 1 => by
    have ih := missK_le ls h i
    have := missRow_le (ls.getD i []) (nd.getD i []) i
    have := row24 h i
    rw [missK, List.length_append]
    omega
theorem missJ_le {nd : List (List Int)} (ls : List (List Int)) (h : OkLists nd) (i k : Nat) : (missJ ls nd i k).length ≤ 24 * i + 24 := by
  have ih := missK_le ls h i
  have := missRow_le (ls.getD i []) ((nd.getD i []).take k) i
  have := row24 h i
  have : (List.take k (nd.getD i [])).length ≤ (nd.getD i []).length := by rw [List.length_take]; omega
  rw [missJ, List.length_append]
  omega
theorem missK_two {ls nd : List (List Int)} : ∀ i, ∀ x ∈ missK ls nd i, x.length = 2
  | 0, x, hx => by simp [missK] at hx
  | i + 1, x, hx => by
    rcases List.mem_append.1 hx with e | e
    · exact missK_two i x e
    · obtain ⟨k, _, rfl⟩ := List.mem_map.1 e
      rfl
noncomputable def misL (ls nd : List (List Int)) : List (List Int) := if bp (OkLists ls ∧ OkLists nd ∧ ls.length = nd.length) then missK ls nd nd.length else []
noncomputable def misC (ls nd : List (List Int)) : Int := if bp (OkLists ls ∧ OkLists nd) then (if bp (ls.length = nd.length) then 0 else 6) else 1
section
variable {ls nd : List (List Int)}
theorem mis_yes (h1 : OkLists ls) (h2 : OkLists nd) (h3 : ls.length = nd.length) : misL ls nd = missK ls nd nd.length ∧ misC ls nd = 0 := by
  unfold misL misC
  rw [if_pos (by rw [bp_true]; exact ⟨h1, h2, h3⟩), if_pos (by rw [bp_true]; exact ⟨h1, h2⟩), if_pos (by rw [bp_true]; exact h3)]
  exact ⟨rfl, rfl⟩
theorem mis_bad (h1 : OkLists ls) (h2 : OkLists nd) (h3 : ¬ ls.length = nd.length) : misL ls nd = [] ∧ misC ls nd = 6 := by
  unfold misL misC
  rw [if_neg (by rw [bp_true]; exact fun h => h3 h.2.2), if_pos (by rw [bp_true]; exact ⟨h1, h2⟩), if_neg (by rw [bp_true]; exact h3)]
  exact ⟨rfl, rfl⟩
theorem mis_no (h1 : ¬ (OkLists ls ∧ OkLists nd)) : misL ls nd = [] ∧ misC ls nd = 1 := by
  unfold misL misC
  rw [if_neg (by rw [bp_true]; exact fun h => h1 ⟨h.1, h.2.1⟩), if_neg (by rw [bp_true]; exact h1)]
  exact ⟨rfl, rfl⟩
end
theorem denx_implMissingNeighbours (ls nd : List (List Int)) : DenX Try.prog 8 [.v (intss ls), .v (intss nd)] [.v (intss ls), .v (intss nd)] (.tup [.ol 1 (mapC xints (misL ls nd)) (misL ls nd).length, xi (misC ls nd)]) := by
  refine denx_of_awp Try.func8 rfl (by kernel_rfl) (Nat.le_of_ble_eq_true rfl) (by simp +decide only [w_embA_nil, w_embA_cons, w_emb_v, w_emb_ol, w_emb_op, w_emb_agg, w_emb_tup, w_embL_nil, w_embL_cons, embL_i, List.map_cons, List.map_nil, List.nil_append, List.append_nil, List.cons_append, List.nodup_cons, List.nodup_nil, List.mem_cons, List.mem_nil_iff, List.not_mem_nil, ch_ch, ch_lit, lit_ch, Nat.reduceAdd]) mixed (by kernel_rfl) fun hl => ?_
  simp only [xlensL, xlens, lensL, lens, lensL_i, lensL_mapC, xlensL_i, maxI, and_true, true_and] at hl
  rw [Try.ntmps8]
  refine ex_start ?_
  by_cases h1 : OkLists ls
  case neg =>
    obtain ⟨e1, e2⟩ := mis_no (ls := ls) (nd := nd) (fun h => h1 h.1)
    rw [e1, e2]
    simp (config := { maxSteps := 1000000 }) +decide only [NoH, Old, OldL, nilQ, nilA, RechL, ReY, isNew, stepO, XPost, postN, XOk, updN, updU, isEff, avalue, aeff, ASt.eval, ASt.put, ASt.set, ASt.new, Nat.reduceDiv, Nat.reduceAdd, Int.reduceToNat, absV, absC, scalar, alen, acap, conc, flats, live, blkOf, aload, rd, part?, afieldAddr, afield, aindexAddr, cellsOf, afill, places, abuild, optI, asliceV, asliceS, szOk, srcCells, aappend, astore, amakeSlice, abuildSlice, snapL, mapO, treeL, AVal.tree, AVal.flatT, isFlat, ares, isFz, afroz, afrozB, lookupA, lookupH, tops, if_true, if_false, reduceCtorEq, forall_const, ite_true, ite_false, implies_true, walkS, tabS, Try.results8]
    refine callK (den_implValid ls) (by first | exact .inl rfl | exact .inr rfl) ?_
    simp (config := { maxSteps := 1000000 }) +decide only [NoH, Old, OldL, nilQ, nilA, RechL, ReY, isNew, stepO, XPost, postN, XOk, updN, updU, isEff, avalue, aeff, ASt.eval, ASt.put, ASt.set, ASt.new, Nat.reduceDiv, Nat.reduceAdd, Int.reduceToNat, absV, absC, scalar, alen, acap, conc, flats, live, blkOf, aload, rd, part?, afieldAddr, afield, aindexAddr, cellsOf, afill, places, abuild, optI, asliceV, asliceS, szOk, srcCells, aappend, astore, amakeSlice, abuildSlice, snapL, mapO, treeL, AVal.tree, AVal.flatT, isFlat, ares, isFz, afroz, afrozB, lookupA, lookupH, tops, if_true, if_false, reduceCtorEq, forall_const, ite_true, ite_false, implies_true, walkS, tabS, Try.results8, h1, mapC_nil]
  by_cases h2 : OkLists nd
  case neg =>
    obtain ⟨e1, e2⟩ := mis_no (ls := ls) (nd := nd) (fun h => h2 h.2)
    rw [e1, e2]
    simp (config := { maxSteps := 1000000 }) +decide only [NoH, Old, OldL, nilQ, nilA, RechL, ReY, isNew, stepO, XPost, postN, XOk, updN, updU, isEff, avalue, aeff, ASt.eval, ASt.put, ASt.set, ASt.new, Nat.reduceDiv, Nat.reduceAdd, Int.reduceToNat, absV, absC, scalar, alen, acap, conc, flats, live, blkOf, aload, rd, part?, afieldAddr, afield, aindexAddr, cellsOf, afill, places, abuild, optI, asliceV, asliceS, szOk, srcCells, aappend, astore, amakeSlice, abuildSlice, snapL, mapO, treeL, AVal.tree, AVal.flatT, isFlat, ares, isFz, afroz, afrozB, lookupA, lookupH, tops, if_true, if_false, reduceCtorEq, forall_const, ite_true, ite_false, implies_true, walkS, tabS, Try.results8]
    refine callK (den_implValid ls) (by first | exact .inl rfl | exact .inr rfl) ?_
    simp (config := { maxSteps := 1000000 }) +decide only [NoH, Old, OldL, nilQ, nilA, RechL, ReY, isNew, stepO, XPost, postN, XOk, updN, updU, isEff, avalue, aeff, ASt.eval, ASt.put, ASt.set, ASt.new, Nat.reduceDiv, Nat.reduceAdd, Int.reduceToNat, absV, absC, scalar, alen, acap, conc, flats, live, blkOf, aload, rd, part?, afieldAddr, afield, aindexAddr, cellsOf, afill, places, abuild, optI, asliceV, asliceS, szOk, srcCells, aappend, astore, amakeSlice, abuildSlice, snapL, mapO, treeL, AVal.tree, AVal.flatT, isFlat, ares, isFz, afroz, afrozB, lookupA, lookupH, tops, if_true, if_false, reduceCtorEq, forall_const, ite_true, ite_false, implies_true, walkS, tabS, Try.results8, h1]
    refine callK (den_implValid nd) (by first | exact .inl rfl | exact .inr rfl) ?_
    simp (config := { maxSteps := 1000000 }) +decide only [NoH, Old, OldL, nilQ, nilA, RechL, ReY, isNew, stepO, XPost, postN, XOk, updN, updU, isEff, avalue, aeff, ASt.eval, ASt.put, ASt.set, ASt.new, Nat.reduceDiv, Nat.reduceAdd, Int.reduceToNat, absV, absC, scalar, alen, acap, conc, flats, live, blkOf, aload, rd, part?, afieldAddr, afield, aindexAddr, cellsOf, afill, places, abuild, optI, asliceV, asliceS, szOk, srcCells, aappend, astore, amakeSlice, abuildSlice, snapL, mapO, treeL, AVal.tree, AVal.flatT, isFlat, ares, isFz, afroz, afrozB, lookupA, lookupH, tops, if_true, if_false, reduceCtorEq, forall_const, ite_true, ite_false, implies_true, walkS, tabS, Try.results8, h2, mapC_nil]
  simp (config := { maxSteps := 1000000 }) +decide only [NoH, Old, OldL, nilQ, nilA, RechL, ReY, isNew, stepO, XPost, postN, XOk, updN, updU, isEff, avalue, aeff, ASt.eval, ASt.put, ASt.set, ASt.new, Nat.reduceDiv, Nat.reduceAdd, Int.reduceToNat, absV, absC, scalar, alen, acap, conc, flats, live, blkOf, aload, rd, part?, afieldAddr, afield, aindexAddr, cellsOf, afill, places, abuild, optI, asliceV, asliceS, szOk, srcCells, aappend, astore, amakeSlice, abuildSlice, snapL, mapO, treeL, AVal.tree, AVal.flatT, isFlat, ares, isFz, afroz, afrozB, lookupA, lookupH, tops, if_true, if_false, reduceCtorEq, forall_const, ite_true, ite_false, implies_true, walkS, tabS, Try.results8]
  refine callK (den_implValid ls) (by first | exact .inl rfl | exact .inr rfl) ?_
  simp (config := { maxSteps := 1000000 }) +decide only [NoH, Old, OldL, nilQ, nilA, RechL, ReY, isNew, stepO, XPost, postN, XOk, updN, updU, isEff, avalue, aeff, ASt.eval, ASt.put, ASt.set, ASt.new, Nat.reduceDiv, Nat.reduceAdd, Int.reduceToNat, absV, absC, scalar, alen, acap, conc, flats, live, blkOf, aload, rd, part?, afieldAddr, afield, aindexAddr, cellsOf, afill, places, abuild, optI, asliceV, asliceS, szOk, srcCells, aappend, astore, amakeSlice, abuildSlice, snapL, mapO, treeL, AVal.tree, AVal.flatT, isFlat, ares, isFz, afroz, afrozB, lookupA, lookupH, tops, if_true, if_false, reduceCtorEq, forall_const, ite_true, ite_false, implies_true, walkS, tabS, Try.results8, h1]
  refine callK (den_implValid nd) (by first | exact .inl rfl | exact .inr rfl) ?_
  by_cases h3 : ls.length = nd.length
  case neg =>
    obtain ⟨e1, e2⟩ := mis_bad h1 h2 h3
    rw [e1, e2]
    simp (config := { maxSteps := 1000000 }) +decide only [NoH, Old, OldL, nilQ, nilA, RechL, ReY, isNew, stepO, XPost, postN, XOk, updN, updU, isEff, avalue, aeff, ASt.eval, ASt.put, ASt.set, ASt.new, Nat.reduceDiv, Nat.reduceAdd, Int.reduceToNat, absV, absC, scalar, alen, acap, conc, flats, live, blkOf, aload, rd, part?, afieldAddr, afield, aindexAddr, cellsOf, afill, places, abuild, optI, asliceV, asliceS, szOk, srcCells, aappend, astore, amakeSlice, abuildSlice, snapL, mapO, treeL, AVal.tree, AVal.flatT, isFlat, ares, isFz, afroz, afrozB, lookupA, lookupH, tops, if_true, if_false, reduceCtorEq, forall_const, ite_true, ite_false, implies_true, walkS, tabS, Try.results8, h2, eq_false h3, mapC_nil]
  obtain ⟨e1, e2⟩ := mis_yes h1 h2 h3
  rw [e1, e2]
  have hlen := h2.1
  simp (config := { maxSteps := 1000000 }) +decide only [NoH, Old, OldL, nilQ, nilA, RechL, ReY, isNew, stepO, XPost, postN, XOk, updN, updU, isEff, avalue, aeff, ASt.eval, ASt.put, ASt.set, ASt.new, Nat.reduceDiv, Nat.reduceAdd, Int.reduceToNat, absV, absC, scalar, alen, acap, conc, flats, live, blkOf, aload, rd, part?, afieldAddr, afield, aindexAddr, cellsOf, afill, places, abuild, optI, asliceV, asliceS, szOk, srcCells, aappend, astore, amakeSlice, abuildSlice, snapL, mapO, treeL, AVal.tree, AVal.flatT, isFlat, ares, isFz, afroz, afrozB, lookupA, lookupH, tops, if_true, if_false, reduceCtorEq, forall_const, ite_true, ite_false, implies_true, walkS, tabS, Try.results8, h2, eq_true h3]
  refine ex_loop (fun p : {p : Nat × Nat × Nat × (Nat → Nat) // p.1 ≤ nd.length} => mk [(0, intss ls), (6, .own 51 p.1.2.1 0 (missK ls nd p.1.1).length), (26, intss nd), (27, .i nd.length), (28, .i p.1.1)] ((51, ⟨p.1.2.1, 1, famC 51 p.1.2.2.2 (missK ls nd p.1.1)⟩) :: famH 51 p.1.2.2.2 (missK ls nd p.1.1)) p.1.2.2.1 55) (fun p => nd.length - p.1.1) ⟨(0, 1, 2, fun _ => 0), by simp⟩ ?_ ?_
  · refine weak_mk rfl (by first | exact Nat.le_refl _ | (simp only [mk_gen]; omega)) ?_ ?_ <;> simp +decide only [w_lookup_nil, w_lookup_cons, ch_ch, ch_lit, lit_ch, wkT, wkH, wkB, WVL, WV_refl', Int.natCast_zero, Int.natCast_add, Int.natCast_one, Nat.sub_self, Nat.sub_zero, List.replicate_zero, List.take_zero, List.nil_append, List.append_nil, fillC_zero, Nat.reduceDiv, Nat.reduceAdd, upd_bk, bk_at, getB_zero, getB_succ, modB_zero, modB_succ, rows_lit, repB_zero, repB_succ, List.length_cons, List.length_nil, upd_upd_same, upd_apply, mk_tmp, mk_heap, mk_gen, lookupA, lookupH, List.getD_cons_zero, List.getD_cons_succ, init_two, tops, Bool.true_and, and_self, and_true, true_and, true_or, if_true, if_false, ite_true, ite_false, reduceCtorEq, reduceIte, missK, famC_nil, famH_nil, List.length_nil]
    exact WV_nl rfl rfl rfl rfl
  · rintro ⟨⟨i, g, G, gs⟩, hi⟩
    by_cases ilt : i < nd.length
    · have ilt' : i < ls.length := by omega
      have hw : IntKind.i64.wrap ((i : Int) + 1) = ((i + 1 : Nat) : Int) := wrap64 (by omega) (by omega)
      have hrow : nd[i].length ≤ 24 := by have := row24 h2 i; simpa [List.getD, ilt] using this
      simp (config := { maxSteps := 1000000 }) +decide only [NoH, Old, OldL, nilQ, nilA, RechL, ReY, isNew, stepO, XPost, postN, XOk, updN, updU, isEff, avalue, aeff, ASt.eval, ASt.put, ASt.set, ASt.new, Nat.reduceDiv, Nat.reduceAdd, Int.reduceToNat, absV, absC, scalar, alen, acap, conc, flats, live, blkOf, aload, rd, part?, afieldAddr, afield, aindexAddr, cellsOf, afill, places, abuild, optI, asliceV, asliceS, szOk, srcCells, aappend, astore, amakeSlice, abuildSlice, snapL, mapO, treeL, AVal.tree, AVal.flatT, isFlat, ares, isFz, afroz, afrozB, lookupA, lookupH, tops, if_true, if_false, reduceCtorEq, forall_const, ite_true, ite_false, implies_true, walkS, tabS, Try.results8, hw, ilt]
      refine ex_loop (fun q : {q : Nat × Nat × Nat × (Nat → Nat) // q.1 ≤ nd[i].length} => mkG (ghs [(49, ch 51 (missJ ls nd i q.1.1).length)] [50]) [(0, intss ls), (6, .own 51 q.1.2.1 0 (missJ ls nd i q.1.1).length), (7, .i i), (26, intss nd), (27, .i nd.length), (28, .i i), (33, ints nd[i]), (34, .i nd[i].length), (35, .i q.1.1)] ((51, ⟨q.1.2.1, 1, famC 51 q.1.2.2.2 (missJ ls nd i q.1.1)⟩) :: famH 51 q.1.2.2.2 (missJ ls nd i q.1.1)) q.1.2.2.1 55) (fun q => nd[i].length - q.1.1) ⟨(0, g, G, gs), by simp⟩ ?_ ?_
      · refine weak_mk rfl (by first | exact Nat.le_refl _ | (simp only [mk_gen]; omega)) ?_ ?_ <;> simp +decide only [w_lookup_nil, w_lookup_cons, ch_ch, ch_lit, lit_ch, wkT, wkH, wkB, WVL, WV_refl', Int.natCast_zero, Int.natCast_add, Int.natCast_one, Nat.sub_self, Nat.sub_zero, List.replicate_zero, List.take_zero, List.nil_append, List.append_nil, fillC_zero, Nat.reduceDiv, Nat.reduceAdd, upd_bk, bk_at, getB_zero, getB_succ, modB_zero, modB_succ, rows_lit, repB_zero, repB_succ, List.length_cons, List.length_nil, upd_upd_same, upd_apply, mk_tmp, mk_heap, mk_gen, lookupA, lookupH, List.getD_cons_zero, List.getD_cons_succ, init_two, tops, Bool.true_and, and_self, and_true, true_and, true_or, if_true, if_false, ite_true, ite_false, reduceCtorEq, reduceIte, missJ_zero]
        refine fam_all fun j hj => ?_
        simp (config := { maxSteps := 1000000 }) +decide only [NoH, Old, OldL, nilQ, nilA, RechL, ReY, isNew, stepO, XPost, postN, XOk, updN, updU, isEff, avalue, aeff, ASt.eval, ASt.put, ASt.set, ASt.new, Nat.reduceDiv, Nat.reduceAdd, Int.reduceToNat, absV, absC, scalar, alen, acap, conc, flats, live, blkOf, aload, rd, part?, afieldAddr, afield, aindexAddr, cellsOf, afill, places, abuild, optI, asliceV, asliceS, szOk, srcCells, aappend, astore, amakeSlice, abuildSlice, snapL, mapO, treeL, AVal.tree, AVal.flatT, isFlat, ares, isFz, afroz, afrozB, lookupA, lookupH, tops, if_true, if_false, reduceCtorEq, forall_const, ite_true, ite_false, implies_true, walkS, tabS, Try.results8, famH_at hj]
      · rintro ⟨⟨k, g', G', gs'⟩, hk⟩
        have hle := missJ_le ls h2 i k
        by_cases klt : k < nd[i].length
        · have hw' : IntKind.i64.wrap ((k : Int) + 1) = ((k + 1 : Nat) : Int) := wrap64 (by omega) (by omega)
          have h8 : ((missJ ls nd i k).length + 1) * 24 ≤ 140737488355328 := by omega
          have hm : nd[i].length - (k + 1) < nd[i].length - k := by omega
          simp (config := { maxSteps := 1000000 }) +decide only [NoH, Old, OldL, nilQ, nilA, RechL, ReY, isNew, stepO, XPost, postN, XOk, updN, updU, isEff, avalue, aeff, ASt.eval, ASt.put, ASt.set, ASt.new, Nat.reduceDiv, Nat.reduceAdd, Int.reduceToNat, absV, absC, scalar, alen, acap, conc, flats, live, blkOf, aload, rd, part?, afieldAddr, afield, aindexAddr, cellsOf, afill, places, abuild, optI, asliceV, asliceS, szOk, srcCells, aappend, astore, amakeSlice, abuildSlice, snapL, mapO, treeL, AVal.tree, AVal.flatT, isFlat, ares, isFz, afroz, afrozB, lookupA, lookupH, tops, if_true, if_false, reduceCtorEq, forall_const, ite_true, ite_false, implies_true, walkS, tabS, Try.results8, hw', ilt', klt]
          refine callK (den_Contains _ _) (by first | exact .inl rfl | exact .inr rfl) ?_
          by_cases hq : nd[i][k] ∈ ls[i]
          · simp (config := { maxSteps := 1000000 }) +decide only [NoH, Old, OldL, nilQ, nilA, RechL, ReY, isNew, stepO, XPost, postN, XOk, updN, updU, isEff, avalue, aeff, ASt.eval, ASt.put, ASt.set, ASt.new, Nat.reduceDiv, Nat.reduceAdd, Int.reduceToNat, absV, absC, scalar, alen, acap, conc, flats, live, blkOf, aload, rd, part?, afieldAddr, afield, aindexAddr, cellsOf, afill, places, abuild, optI, asliceV, asliceS, szOk, srcCells, aappend, astore, amakeSlice, abuildSlice, snapL, mapO, treeL, AVal.tree, AVal.flatT, isFlat, ares, isFz, afroz, afrozB, lookupA, lookupH, tops, if_true, if_false, reduceCtorEq, forall_const, ite_true, ite_false, implies_true, walkS, tabS, Try.results8, hw', eq_true hq]
            refine ⟨⟨(k + 1, g', G', gs'), klt⟩, ?_, hm⟩
            refine weak_mk rfl (by first | exact Nat.le_refl _ | (simp only [mk_gen]; omega)) ?_ ?_ <;> simp +decide only [w_lookup_nil, w_lookup_cons, ch_ch, ch_lit, lit_ch, wkT, wkH, wkB, WVL, WV_refl', Int.natCast_zero, Int.natCast_add, Int.natCast_one, Nat.sub_self, Nat.sub_zero, List.replicate_zero, List.take_zero, List.nil_append, List.append_nil, fillC_zero, Nat.reduceDiv, Nat.reduceAdd, upd_bk, bk_at, getB_zero, getB_succ, modB_zero, modB_succ, rows_lit, repB_zero, repB_succ, List.length_cons, List.length_nil, upd_upd_same, upd_apply, mk_tmp, mk_heap, mk_gen, lookupA, lookupH, List.getD_cons_zero, List.getD_cons_succ, init_two, tops, Bool.true_and, and_self, and_true, true_and, true_or, if_true, if_false, ite_true, ite_false, reduceCtorEq, reduceIte, missJ_no ilt' ilt klt hq]
            refine fam_all fun j hj => ?_
            simp (config := { maxSteps := 1000000 }) +decide only [NoH, Old, OldL, nilQ, nilA, RechL, ReY, isNew, stepO, XPost, postN, XOk, updN, updU, isEff, avalue, aeff, ASt.eval, ASt.put, ASt.set, ASt.new, Nat.reduceDiv, Nat.reduceAdd, Int.reduceToNat, absV, absC, scalar, alen, acap, conc, flats, live, blkOf, aload, rd, part?, afieldAddr, afield, aindexAddr, cellsOf, afill, places, abuild, optI, asliceV, asliceS, szOk, srcCells, aappend, astore, amakeSlice, abuildSlice, snapL, mapO, treeL, AVal.tree, AVal.flatT, isFlat, ares, isFz, afroz, afrozB, lookupA, lookupH, tops, if_true, if_false, reduceCtorEq, forall_const, ite_true, ite_false, implies_true, walkS, tabS, Try.results8, famH_at hj]
          · generalize hJ : missJ ls nd i k = J at hle h8
            simp (config := { maxSteps := 1000000 }) +decide only [NoH, Old, OldL, nilQ, nilA, RechL, ReY, isNew, stepO, XPost, postN, XOk, updN, updU, isEff, avalue, aeff, ASt.eval, ASt.put, ASt.set, ASt.new, Nat.reduceDiv, Nat.reduceAdd, Int.reduceToNat, absV, absC, scalar, alen, acap, conc, flats, live, blkOf, aload, rd, part?, afieldAddr, afield, aindexAddr, cellsOf, afill, places, abuild, optI, asliceV, asliceS, szOk, srcCells, aappend, astore, amakeSlice, abuildSlice, snapL, mapO, treeL, AVal.tree, AVal.flatT, isFlat, ares, isFz, afroz, afrozB, lookupA, lookupH, tops, if_true, if_false, reduceCtorEq, forall_const, ite_true, ite_false, implies_true, walkS, tabS, Try.results8, hw', klt, h8, eq_false hq, List.replicate_succ, List.flatten_cons, List.flatten_nil, famS, famS2, famS3]
            refine ⟨⟨(k + 1, G' + 1, G' + 2, upd gs' J.length G'), klt⟩, ?_, hm⟩
            have ej := missJ_yes ilt' ilt klt hq
            rw [hJ] at ej
            have ec := famC_snoc (ν := 51) (gs := gs') (ls := J) [(i : Int), nd[i][k]] G'
            have e2 : ([(i : Int), nd[i][k]]).length = 2 := rfl
            rw [e2] at ec
            refine weak_mk rfl (by first | exact Nat.le_refl _ | (simp only [mk_gen]; omega)) ?_ ?_ <;> simp +decide only [w_lookup_nil, w_lookup_cons, ch_ch, ch_lit, lit_ch, wkT, wkH, wkB, WVL, WV_refl', Int.natCast_zero, Int.natCast_add, Int.natCast_one, Nat.sub_self, Nat.sub_zero, List.replicate_zero, List.take_zero, List.nil_append, List.append_nil, fillC_zero, Nat.reduceDiv, Nat.reduceAdd, upd_bk, bk_at, getB_zero, getB_succ, modB_zero, modB_succ, rows_lit, repB_zero, repB_succ, List.length_cons, List.length_nil, upd_upd_same, upd_apply, mk_tmp, mk_heap, mk_gen, lookupA, lookupH, List.getD_cons_zero, List.getD_cons_succ, init_two, tops, Bool.true_and, and_self, and_true, true_and, true_or, if_true, if_false, ite_true, ite_false, reduceCtorEq, reduceIte, ej, ec, List.length_append, List.length_cons, List.length_nil, Nat.zero_add]
            refine fam_all fun j hj => ?_
            have hj2 : j < J.length + 1 := by simpa using hj
            by_cases ej2 : j = J.length
            · subst ej2
              have e4 : (J ++ [[(i : Int), nd[i][k]]])[J.length] = [(i : Int), nd[i][k]] := by simp
              have e5 : upd gs' J.length G' J.length = G' := by simp [upd]
              simp (config := { maxSteps := 1000000 }) +decide only [NoH, Old, OldL, nilQ, nilA, RechL, ReY, isNew, stepO, XPost, postN, XOk, updN, updU, isEff, avalue, aeff, ASt.eval, ASt.put, ASt.set, ASt.new, Nat.reduceDiv, Nat.reduceAdd, Int.reduceToNat, absV, absC, scalar, alen, acap, conc, flats, live, blkOf, aload, rd, part?, afieldAddr, afield, aindexAddr, cellsOf, afill, places, abuild, optI, asliceV, asliceS, szOk, srcCells, aappend, astore, amakeSlice, abuildSlice, snapL, mapO, treeL, AVal.tree, AVal.flatT, isFlat, ares, isFz, afroz, afrozB, lookupA, lookupH, tops, if_true, if_false, reduceCtorEq, forall_const, ite_true, ite_false, implies_true, walkS, tabS, Try.results8, e4, e5]
              rfl
            · have hj3 : j < J.length := by omega
              have e4 : (J ++ [[(i : Int), nd[i][k]]])[j] = J[j] := by rw [List.getElem_append_left hj3]
              have e5 : upd gs' J.length G' j = gs' j := by simp [upd, ej2]
              simp (config := { maxSteps := 1000000 }) +decide only [NoH, Old, OldL, nilQ, nilA, RechL, ReY, isNew, stepO, XPost, postN, XOk, updN, updU, isEff, avalue, aeff, ASt.eval, ASt.put, ASt.set, ASt.new, Nat.reduceDiv, Nat.reduceAdd, Int.reduceToNat, absV, absC, scalar, alen, acap, conc, flats, live, blkOf, aload, rd, part?, afieldAddr, afield, aindexAddr, cellsOf, afill, places, abuild, optI, asliceV, asliceS, szOk, srcCells, aappend, astore, amakeSlice, abuildSlice, snapL, mapO, treeL, AVal.tree, AVal.flatT, isFlat, ares, isFz, afroz, afrozB, lookupA, lookupH, tops, if_true, if_false, reduceCtorEq, forall_const, ite_true, ite_false, implies_true, walkS, tabS, Try.results8, e4, e5, ej2, famH_at hj3]
        · have e : k = nd[i].length := by omega
          subst e
          simp (config := { maxSteps := 1000000 }) +decide only [NoH, Old, OldL, nilQ, nilA, RechL, ReY, isNew, stepO, XPost, postN, XOk, updN, updU, isEff, avalue, aeff, ASt.eval, ASt.put, ASt.set, ASt.new, Nat.reduceDiv, Nat.reduceAdd, Int.reduceToNat, absV, absC, scalar, alen, acap, conc, flats, live, blkOf, aload, rd, part?, afieldAddr, afield, aindexAddr, cellsOf, afill, places, abuild, optI, asliceV, asliceS, szOk, srcCells, aappend, astore, amakeSlice, abuildSlice, snapL, mapO, treeL, AVal.tree, AVal.flatT, isFlat, ares, isFz, afroz, afrozB, lookupA, lookupH, tops, if_true, if_false, reduceCtorEq, forall_const, ite_true, ite_false, implies_true, walkS, tabS, Try.results8, hw, klt]
          refine ⟨⟨(i + 1, g', G', gs'), ilt⟩, ?_, by show _ - (i + 1) < _ - i; omega⟩
          refine weak_mk rfl (by first | exact Nat.le_refl _ | (simp only [mk_gen]; omega)) ?_ ?_ <;> simp +decide only [w_lookup_nil, w_lookup_cons, ch_ch, ch_lit, lit_ch, wkT, wkH, wkB, WVL, WV_refl', Int.natCast_zero, Int.natCast_add, Int.natCast_one, Nat.sub_self, Nat.sub_zero, List.replicate_zero, List.take_zero, List.nil_append, List.append_nil, fillC_zero, Nat.reduceDiv, Nat.reduceAdd, upd_bk, bk_at, getB_zero, getB_succ, modB_zero, modB_succ, rows_lit, repB_zero, repB_succ, List.length_cons, List.length_nil, upd_upd_same, upd_apply, mk_tmp, mk_heap, mk_gen, lookupA, lookupH, List.getD_cons_zero, List.getD_cons_succ, init_two, tops, Bool.true_and, and_self, and_true, true_and, true_or, if_true, if_false, ite_true, ite_false, reduceCtorEq, reduceIte, missJ_all ilt]
          refine fam_all fun j hj => ?_
          simp (config := { maxSteps := 1000000 }) +decide only [NoH, Old, OldL, nilQ, nilA, RechL, ReY, isNew, stepO, XPost, postN, XOk, updN, updU, isEff, avalue, aeff, ASt.eval, ASt.put, ASt.set, ASt.new, Nat.reduceDiv, Nat.reduceAdd, Int.reduceToNat, absV, absC, scalar, alen, acap, conc, flats, live, blkOf, aload, rd, part?, afieldAddr, afield, aindexAddr, cellsOf, afill, places, abuild, optI, asliceV, asliceS, szOk, srcCells, aappend, astore, amakeSlice, abuildSlice, snapL, mapO, treeL, AVal.tree, AVal.flatT, isFlat, ares, isFz, afroz, afrozB, lookupA, lookupH, tops, if_true, if_false, reduceCtorEq, forall_const, ite_true, ite_false, implies_true, walkS, tabS, Try.results8, famH_at hj]
    · have e : i = nd.length := by omega
      subst e
      simp (config := { maxSteps := 1000000 }) +decide only [NoH, Old, OldL, nilQ, nilA, RechL, ReY, isNew, stepO, XPost, postN, XOk, updN, updU, isEff, avalue, aeff, ASt.eval, ASt.put, ASt.set, ASt.new, Nat.reduceDiv, Nat.reduceAdd, Int.reduceToNat, absV, absC, scalar, alen, acap, conc, flats, live, blkOf, aload, rd, part?, afieldAddr, afield, aindexAddr, cellsOf, afill, places, abuild, optI, asliceV, asliceS, szOk, srcCells, aappend, astore, amakeSlice, abuildSlice, snapL, mapO, treeL, AVal.tree, AVal.flatT, isFlat, ares, isFz, afroz, afrozB, lookupA, lookupH, tops, if_true, if_false, reduceCtorEq, forall_const, ite_true, ite_false, implies_true, walkS, tabS, Try.results8, ilt, famS, famS2, famS3, len_mapC]
end Go.Proofs.Ytgfjbpincemcaaa
