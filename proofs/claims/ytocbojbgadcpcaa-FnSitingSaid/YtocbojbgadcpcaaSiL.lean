/-
  OWN WORK: the cheapest cover, both sides.
-/
import Derived.Test.YtocbojbgadcpcaaSiK
namespace Go.Proofs.Ytocbojbgadcpcaa
open Go Go.Own Go.Proofs
set_option maxHeartbeats 4000000
set_option maxRecDepth 20000
set_option linter.unusedSimpArgs false
noncomputable def lcR (ws : List Int) (cv : List (List Int)) (cs : List Int) (budget : Int) : SS := node (leafV ws cv cs) cv.length (cv.length + 1) [] ⟨budget, -1, []⟩
noncomputable def lcL (ws : List Int) (cv : List (List Int)) (cs : List Int) (budget : Int) : List Int := if bp (OkSit ws cv cs ∧ BudOk budget ∧ 0 ≤ (lcR ws cv cs budget).b ∧ 0 ≤ (lcR ws cv cs budget).m) then (lcR ws cv cs budget).best else []
noncomputable def lcC (ws : List Int) (cv : List (List Int)) (cs : List Int) (budget : Int) : Int := if bp (OkSit ws cv cs) then (if bp (BudOk budget) then (if bp (0 ≤ (lcR ws cv cs budget).b) then (if bp (0 ≤ (lcR ws cv cs budget).m) then 0 else 3) else 5) else 2) else 1
section
variable {ws : List Int} {cv : List (List Int)} {cs : List Int} {budget : Int}
theorem lc_no (h1 : ¬ OkSit ws cv cs) : lcL ws cv cs budget = [] ∧ lcC ws cv cs budget = 1 := by
  unfold lcL lcC
  rw [if_neg (by rw [bp_true]; exact fun h => h1 h.1), if_neg (by rw [bp_true]; exact h1)]
  exact ⟨rfl, rfl⟩
theorem lc_bad (h1 : OkSit ws cv cs) (h2 : ¬ BudOk budget) : lcL ws cv cs budget = [] ∧ lcC ws cv cs budget = 2 := by
  unfold lcL lcC
  rw [if_neg (by rw [bp_true]; exact fun h => h2 h.2.1), if_pos (by rw [bp_true]; exact h1), if_neg (by rw [bp_true]; exact h2)]
  exact ⟨rfl, rfl⟩
theorem lc_full (h1 : OkSit ws cv cs) (h2 : BudOk budget) (h4 : ¬ 0 ≤ (lcR ws cv cs budget).b) : lcL ws cv cs budget = [] ∧ lcC ws cv cs budget = 5 := by
  unfold lcL lcC
  rw [if_neg (by rw [bp_true]; exact fun h => h4 h.2.2.1), if_pos (by rw [bp_true]; exact h1), if_pos (by rw [bp_true]; exact h2), if_neg (by rw [bp_true]; exact h4)]
  exact ⟨rfl, rfl⟩
theorem lc_none (h1 : OkSit ws cv cs) (h2 : BudOk budget) (h4 : 0 ≤ (lcR ws cv cs budget).b) (h5 : ¬ 0 ≤ (lcR ws cv cs budget).m) : lcL ws cv cs budget = [] ∧ lcC ws cv cs budget = 3 := by
  unfold lcL lcC
  rw [if_neg (by rw [bp_true]; exact fun h => h5 h.2.2.2), if_pos (by rw [bp_true]; exact h1), if_pos (by rw [bp_true]; exact h2), if_pos (by rw [bp_true]; exact h4), if_neg (by rw [bp_true]; exact h5)]
  exact ⟨rfl, rfl⟩
theorem lc_yes (h1 : OkSit ws cv cs) (h2 : BudOk budget) (h4 : 0 ≤ (lcR ws cv cs budget).b) (h5 : 0 ≤ (lcR ws cv cs budget).m) : lcL ws cv cs budget = (lcR ws cv cs budget).best ∧ lcC ws cv cs budget = 0 := by
  unfold lcL lcC
  rw [if_pos (by rw [bp_true]; exact ⟨h1, h2, h4, h5⟩), if_pos (by rw [bp_true]; exact h1), if_pos (by rw [bp_true]; exact h2), if_pos (by rw [bp_true]; exact h4), if_pos (by rw [bp_true]; exact h5)]
  exact ⟨rfl, rfl⟩
end
theorem lcR_ok {ws : List Int} {cv : List (List Int)} {cs : List Int} {budget : Int} (h1 : OkSit ws cv cs) (h : BudOk budget) : SOk (lcR ws cv cs budget) :=
  node_ok (leafV_ok h1) h1.c2 _ _ _ (chn_nil cv) (by show 0 ≤ budget; have := h.1; omega) (start_ok h)
theorem lcL_le (ws : List Int) (cv : List (List Int)) (cs : List Int) (budget : Int) : (lcL ws cv cs budget).length ≤ 20 := by
  by_cases h : OkSit ws cv cs ∧ BudOk budget ∧ 0 ≤ (lcR ws cv cs budget).b ∧ 0 ≤ (lcR ws cv cs budget).m
  · rw [(lc_yes h.1 h.2.1 h.2.2.1 h.2.2.2).1]
    exact (lcR_ok h.1 h.2.1).best
  · unfold lcL
    rw [if_neg (by rw [bp_true]; exact h)]
    simp
theorem denx_implLeastCover (ws : List Int) (cv : List (List Int)) (cs : List Int) (budget : Int) : DenX Try.prog 17 [.v (sitV ws cv cs), xi budget] [.v (sitV ws cv cs), xi budget] (.tup [xints (lcL ws cv cs budget), xi (lcC ws cv cs budget)]) := by
  refine denx_of_awpG (ghs [] [2]) Try.func17 rfl (by kernel_rfl) (Nat.le_of_ble_eq_true rfl) (by simp +decide only [w_embA_nil, w_embA_cons, w_emb_v, w_emb_ol, w_emb_op, w_emb_agg, w_emb_tup, w_embL_nil, w_embL_cons, embL_i, List.map_cons, List.map_nil, List.nil_append, List.append_nil, List.cons_append, List.nodup_cons, List.nodup_nil, List.mem_cons, List.mem_nil_iff, List.not_mem_nil, ch_ch, ch_lit, lit_ch, Nat.reduceAdd]) mixed (by kernel_rfl) fun hl => ?_
  simp only [xlensL, xlens, lensL, lens, lensL_i, lensL_mapC, xlensL_i, maxI, and_true, true_and] at hl
  rw [Try.ntmps17]
  refine ex_start ?_
  by_cases h1 : OkSit ws cv cs
  case neg =>
    obtain ⟨e1, e2⟩ := lc_no (budget := budget) h1
    rw [e1, e2]
    simp (config := { maxSteps := 1000000 }) +decide only [NoH, Old, OldL, nilQ, nilA, RechL, ReY, isNew, stepO, XPost, postN, XOk, updN, updU, isEff, avalue, aeff, ASt.eval, ASt.put, ASt.set, ASt.new, Nat.reduceDiv, Nat.reduceAdd, Int.reduceToNat, absV, absC, scalar, alen, acap, conc, flats, live, blkOf, aload, rd, part?, afieldAddr, afield, aindexAddr, cellsOf, afill, places, abuild, optI, asliceV, asliceS, szOk, srcCells, aappend, astore, amakeSlice, abuildSlice, snapL, mapO, treeL, AVal.tree, AVal.flatT, isFlat, ares, isFz, afroz, afrozB, lookupA, lookupH, tops, if_true, if_false, reduceCtorEq, forall_const, ite_true, ite_false, implies_true, walkS, tabS, Try.results17]
    refine callK (den_implValidSiting ws cv cs) (by first | exact .inl rfl | exact .inr rfl) ?_
    simp (config := { maxSteps := 1000000 }) +decide only [NoH, Old, OldL, nilQ, nilA, RechL, ReY, isNew, stepO, XPost, postN, XOk, updN, updU, isEff, avalue, aeff, ASt.eval, ASt.put, ASt.set, ASt.new, Nat.reduceDiv, Nat.reduceAdd, Int.reduceToNat, absV, absC, scalar, alen, acap, conc, flats, live, blkOf, aload, rd, part?, afieldAddr, afield, aindexAddr, cellsOf, afill, places, abuild, optI, asliceV, asliceS, szOk, srcCells, aappend, astore, amakeSlice, abuildSlice, snapL, mapO, treeL, AVal.tree, AVal.flatT, isFlat, ares, isFz, afroz, afrozB, lookupA, lookupH, tops, if_true, if_false, reduceCtorEq, forall_const, ite_true, ite_false, implies_true, walkS, tabS, Try.results17, eq_false h1, mapC_nil]
  have hn := h1.c2
  simp (config := { maxSteps := 1000000 }) +decide only [NoH, Old, OldL, nilQ, nilA, RechL, ReY, isNew, stepO, XPost, postN, XOk, updN, updU, isEff, avalue, aeff, ASt.eval, ASt.put, ASt.set, ASt.new, Nat.reduceDiv, Nat.reduceAdd, Int.reduceToNat, absV, absC, scalar, alen, acap, conc, flats, live, blkOf, aload, rd, part?, afieldAddr, afield, aindexAddr, cellsOf, afill, places, abuild, optI, asliceV, asliceS, szOk, srcCells, aappend, astore, amakeSlice, abuildSlice, snapL, mapO, treeL, AVal.tree, AVal.flatT, isFlat, ares, isFz, afroz, afrozB, lookupA, lookupH, tops, if_true, if_false, reduceCtorEq, forall_const, ite_true, ite_false, implies_true, walkS, tabS, Try.results17]
  refine callK (den_implValidSiting ws cv cs) (by first | exact .inl rfl | exact .inr rfl) ?_
  simp (config := { maxSteps := 1000000 }) +decide only [NoH, Old, OldL, nilQ, nilA, RechL, ReY, isNew, stepO, XPost, postN, XOk, updN, updU, isEff, avalue, aeff, ASt.eval, ASt.put, ASt.set, ASt.new, Nat.reduceDiv, Nat.reduceAdd, Int.reduceToNat, absV, absC, scalar, alen, acap, conc, flats, live, blkOf, aload, rd, part?, afieldAddr, afield, aindexAddr, cellsOf, afill, places, abuild, optI, asliceV, asliceS, szOk, srcCells, aappend, astore, amakeSlice, abuildSlice, snapL, mapO, treeL, AVal.tree, AVal.flatT, isFlat, ares, isFz, afroz, afrozB, lookupA, lookupH, tops, if_true, if_false, reduceCtorEq, forall_const, ite_true, ite_false, implies_true, walkS, tabS, Try.results17, eq_true h1]
  refine callK (den_budgetValid budget) (by first | exact .inl rfl | exact .inr rfl) ?_
  by_cases h2 : BudOk budget
  case neg =>
    obtain ⟨e1, e2⟩ := lc_bad h1 h2
    rw [e1, e2]
    simp (config := { maxSteps := 1000000 }) +decide only [NoH, Old, OldL, nilQ, nilA, RechL, ReY, isNew, stepO, XPost, postN, XOk, updN, updU, isEff, avalue, aeff, ASt.eval, ASt.put, ASt.set, ASt.new, Nat.reduceDiv, Nat.reduceAdd, Int.reduceToNat, absV, absC, scalar, alen, acap, conc, flats, live, blkOf, aload, rd, part?, afieldAddr, afield, aindexAddr, cellsOf, afill, places, abuild, optI, asliceV, asliceS, szOk, srcCells, aappend, astore, amakeSlice, abuildSlice, snapL, mapO, treeL, AVal.tree, AVal.flatT, isFlat, ares, isFz, afroz, afrozB, lookupA, lookupH, tops, if_true, if_false, reduceCtorEq, forall_const, ite_true, ite_false, implies_true, walkS, tabS, Try.results17, eq_false h2, mapC_nil]
  have hb1 := h2.1
  have hx := denx_cover ws cv cs h1 (cv.length + 1) [] ⟨budget, -1, []⟩ (by rw [nextOf_nil]; omega) (chn_nil cv) (by show 0 ≤ budget; omega) (start_ok h2)
  have hk := lcR_ok h1 h2
  change DenX _ _ _ [seT ws cv cs [] (lcR ws cv cs budget)] _ at hx
  have ey : 0 ≤ (lcR ws cv cs budget).b → 0 ≤ (lcR ws cv cs budget).m → lcL ws cv cs budget = (lcR ws cv cs budget).best ∧ lcC ws cv cs budget = 0 := lc_yes h1 h2
  have en : 0 ≤ (lcR ws cv cs budget).b → ¬ 0 ≤ (lcR ws cv cs budget).m → lcL ws cv cs budget = [] ∧ lcC ws cv cs budget = 3 := lc_none h1 h2
  have ef : ¬ 0 ≤ (lcR ws cv cs budget).b → lcL ws cv cs budget = [] ∧ lcC ws cv cs budget = 5 := lc_full h1 h2
  generalize lcR ws cv cs budget = r at hx hk ey en ef
  obtain ⟨rb, rm, rbest⟩ := r
  simp only [seT, xints, List.length_nil, mapC_nil] at hx
  simp (config := { maxSteps := 1000000 }) +decide only [NoH, Old, OldL, nilQ, nilA, RechL, ReY, isNew, stepO, XPost, postN, XOk, updN, updU, isEff, avalue, aeff, ASt.eval, ASt.put, ASt.set, ASt.new, Nat.reduceDiv, Nat.reduceAdd, Int.reduceToNat, absV, absC, scalar, alen, acap, conc, flats, live, blkOf, aload, rd, part?, afieldAddr, afield, aindexAddr, cellsOf, afill, places, abuild, optI, asliceV, asliceS, szOk, srcCells, aappend, astore, amakeSlice, abuildSlice, snapL, mapO, treeL, AVal.tree, AVal.flatT, isFlat, ares, isFz, afroz, afrozB, lookupA, lookupH, tops, if_true, if_false, reduceCtorEq, forall_const, ite_true, ite_false, implies_true, walkS, tabS, Try.results17, eq_true h2]
  refine callX (hx) (by simp (config := { maxSteps := 1000000 }) +decide only [NoH, Old, OldL, nilQ, nilA, RechL, ReY, isNew, stepO, XPost, postN, XOk, updN, updU, isEff, avalue, aeff, ASt.eval, ASt.put, ASt.set, ASt.new, Nat.reduceDiv, Nat.reduceAdd, Int.reduceToNat, absV, absC, scalar, alen, acap, conc, flats, live, blkOf, aload, rd, part?, afieldAddr, afield, aindexAddr, cellsOf, afill, places, abuild, optI, asliceV, asliceS, szOk, srcCells, aappend, astore, amakeSlice, abuildSlice, snapL, mapO, treeL, AVal.tree, AVal.flatT, isFlat, ares, isFz, afroz, afrozB, lookupA, lookupH, tops, if_true, if_false, reduceCtorEq, forall_const, ite_true, ite_false, implies_true, walkS, tabS, Try.results17, mapC_nil, List.length_nil, Nat.zero_le]) ?_
  have hbl := hk.best
  simp only at hbl ey en ef
  have htb : List.take rbest.length rbest = rbest := List.take_of_length_le (by omega)
  by_cases h4 : 0 ≤ rb
  · have h5 : ¬ rb < 0 := by omega
    by_cases h6 : 0 ≤ rm
    · obtain ⟨e1, e2⟩ := ey h4 h6
      rw [e1, e2]
      have h7 : ¬ rm < 0 := by omega
      simp (config := { maxSteps := 1000000 }) +decide only [NoH, Old, OldL, nilQ, nilA, RechL, ReY, isNew, stepO, XPost, postN, XOk, updN, updU, isEff, avalue, aeff, ASt.eval, ASt.put, ASt.set, ASt.new, Nat.reduceDiv, Nat.reduceAdd, Int.reduceToNat, absV, absC, scalar, alen, acap, conc, flats, live, blkOf, aload, rd, part?, afieldAddr, afield, aindexAddr, cellsOf, afill, places, abuild, optI, asliceV, asliceS, szOk, srcCells, aappend, astore, amakeSlice, abuildSlice, snapL, mapO, treeL, AVal.tree, AVal.flatT, isFlat, ares, isFz, afroz, afrozB, lookupA, lookupH, tops, if_true, if_false, reduceCtorEq, forall_const, ite_true, ite_false, implies_true, walkS, tabS, Try.results17, eq_false h5, eq_false h7, htb]
    · obtain ⟨e1, e2⟩ := en h4 h6
      rw [e1, e2]
      have h7 : rm < 0 := by omega
      simp (config := { maxSteps := 1000000 }) +decide only [NoH, Old, OldL, nilQ, nilA, RechL, ReY, isNew, stepO, XPost, postN, XOk, updN, updU, isEff, avalue, aeff, ASt.eval, ASt.put, ASt.set, ASt.new, Nat.reduceDiv, Nat.reduceAdd, Int.reduceToNat, absV, absC, scalar, alen, acap, conc, flats, live, blkOf, aload, rd, part?, afieldAddr, afield, aindexAddr, cellsOf, afill, places, abuild, optI, asliceV, asliceS, szOk, srcCells, aappend, astore, amakeSlice, abuildSlice, snapL, mapO, treeL, AVal.tree, AVal.flatT, isFlat, ares, isFz, afroz, afrozB, lookupA, lookupH, tops, if_true, if_false, reduceCtorEq, forall_const, ite_true, ite_false, implies_true, walkS, tabS, Try.results17, eq_false h5, eq_true h7, htb, mapC_nil]
  · obtain ⟨e1, e2⟩ := ef h4
    rw [e1, e2]
    have h5 : rb < 0 := by omega
    simp (config := { maxSteps := 1000000 }) +decide only [NoH, Old, OldL, nilQ, nilA, RechL, ReY, isNew, stepO, XPost, postN, XOk, updN, updU, isEff, avalue, aeff, ASt.eval, ASt.put, ASt.set, ASt.new, Nat.reduceDiv, Nat.reduceAdd, Int.reduceToNat, absV, absC, scalar, alen, acap, conc, flats, live, blkOf, aload, rd, part?, afieldAddr, afield, aindexAddr, cellsOf, afill, places, abuild, optI, asliceV, asliceS, szOk, srcCells, aappend, astore, amakeSlice, abuildSlice, snapL, mapO, treeL, AVal.tree, AVal.flatT, isFlat, ares, isFz, afroz, afrozB, lookupA, lookupH, tops, if_true, if_false, reduceCtorEq, forall_const, ite_true, ite_false, implies_true, walkS, tabS, Try.results17, eq_true h5, htb, mapC_nil]
end Go.Proofs.Ytocbojbgadcpcaa
