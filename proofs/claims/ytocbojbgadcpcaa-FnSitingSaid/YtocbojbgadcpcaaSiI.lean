/-
  OWN WORK: the best choice, both sides.
-/
import Derived.Test.YtocbojbgadcpcaaSiH
namespace Go.Proofs.Ytocbojbgadcpcaa
open Go Go.Own Go.Proofs
set_option maxHeartbeats 4000000
set_option maxRecDepth 20000
set_option linter.unusedSimpArgs false
def BudOk (b : Int) : Prop := 1 ≤ b ∧ b ≤ 20000
theorem den_budgetValid (b : Int) : Den Try.prog 33 [.i b] (.b (bp (BudOk b))) := by
  refine den_of_awp Try.func33 rfl (by kernel_rfl) (Nat.le_of_ble_eq_true rfl) (by simp only [treeL, AVal.tree, treeL_i, treeL_ints, treeL_u8, treeL_append, Bool.and_self, Bool.and_true, Bool.true_and]) (by first | rfl | simp only [treeL, AVal.tree, treeL_i, treeL_ints, treeL_u8, treeL_append, Bool.and_self, Bool.and_true, Bool.true_and]) mixed (by kernel_rfl) fun hl => ?_
  simp only [lensL, lens, lensL_i, lensL_mapC, maxI, and_true, true_and] at hl
  rw [Try.ntmps33]
  refine ex_start ?_
  simp (config := { maxSteps := 1000000 }) +decide only [NoH, Old, OldL, nilQ, nilA, RechL, ReY, isNew, stepO, XPost, postN, XOk, updN, updU, isEff, avalue, aeff, ASt.eval, ASt.put, ASt.set, ASt.new, Nat.reduceDiv, Nat.reduceAdd, Int.reduceToNat, absV, absC, scalar, alen, acap, conc, flats, live, blkOf, aload, rd, part?, afieldAddr, afield, aindexAddr, cellsOf, afill, places, abuild, optI, asliceV, asliceS, szOk, srcCells, aappend, astore, amakeSlice, abuildSlice, snapL, mapO, treeL, AVal.tree, AVal.flatT, isFlat, ares, isFz, afroz, afrozB, lookupA, lookupH, tops, if_true, if_false, reduceCtorEq, forall_const, ite_true, ite_false, implies_true, walkS, tabS, Try.results33]
  refine callK (den_within _ _ _) (by first | exact .inl rfl | exact .inr rfl) ?_
  simp (config := { maxSteps := 1000000 }) +decide only [NoH, Old, OldL, nilQ, nilA, RechL, ReY, isNew, stepO, XPost, postN, XOk, updN, updU, isEff, avalue, aeff, ASt.eval, ASt.put, ASt.set, ASt.new, Nat.reduceDiv, Nat.reduceAdd, Int.reduceToNat, absV, absC, scalar, alen, acap, conc, flats, live, blkOf, aload, rd, part?, afieldAddr, afield, aindexAddr, cellsOf, afill, places, abuild, optI, asliceV, asliceS, szOk, srcCells, aappend, astore, amakeSlice, abuildSlice, snapL, mapO, treeL, AVal.tree, AVal.flatT, isFlat, ares, isFz, afroz, afrozB, lookupA, lookupH, tops, if_true, if_false, reduceCtorEq, forall_const, ite_true, ite_false, implies_true, walkS, tabS, Try.results33, BudOk]
def CntOk (cv : List (List Int)) (c : Int) : Prop := 0 ≤ c ∧ c ≤ cv.length
noncomputable def bcR (ws : List Int) (cv : List (List Int)) (count budget : Int) : SS := node (leafC ws cv count) cv.length (cv.length + 1) [] ⟨budget, -1, []⟩
noncomputable def bcL (ws : List Int) (cv : List (List Int)) (cs : List Int) (count budget : Int) : List Int := if bp (OkSit ws cv cs ∧ BudOk budget ∧ CntOk cv count ∧ 0 ≤ (bcR ws cv count budget).b) then (bcR ws cv count budget).best else []
noncomputable def bcC (ws : List Int) (cv : List (List Int)) (cs : List Int) (count budget : Int) : Int := if bp (OkSit ws cv cs) then (if bp (BudOk budget ∧ CntOk cv count) then (if bp (0 ≤ (bcR ws cv count budget).b) then 0 else 5) else 2) else 1
section
variable {ws : List Int} {cv : List (List Int)} {cs : List Int} {count budget : Int}
theorem bc_no (h1 : ¬ OkSit ws cv cs) : bcL ws cv cs count budget = [] ∧ bcC ws cv cs count budget = 1 := by
  unfold bcL bcC
  rw [if_neg (by rw [bp_true]; exact fun h => h1 h.1), if_neg (by rw [bp_true]; exact h1)]
  exact ⟨rfl, rfl⟩
theorem bc_bad (h1 : OkSit ws cv cs) (h2 : ¬ (BudOk budget ∧ CntOk cv count)) : bcL ws cv cs count budget = [] ∧ bcC ws cv cs count budget = 2 := by
  unfold bcL bcC
  rw [if_neg (by rw [bp_true]; exact fun h => h2 ⟨h.2.1, h.2.2.1⟩), if_pos (by rw [bp_true]; exact h1), if_neg (by rw [bp_true]; exact h2)]
  exact ⟨rfl, rfl⟩
theorem bc_full (h1 : OkSit ws cv cs) (h2 : BudOk budget) (h3 : CntOk cv count) (h4 : ¬ 0 ≤ (bcR ws cv count budget).b) : bcL ws cv cs count budget = [] ∧ bcC ws cv cs count budget = 5 := by
  unfold bcL bcC
  rw [if_neg (by rw [bp_true]; exact fun h => h4 h.2.2.2), if_pos (by rw [bp_true]; exact h1), if_pos (by rw [bp_true]; exact ⟨h2, h3⟩), if_neg (by rw [bp_true]; exact h4)]
  exact ⟨rfl, rfl⟩
theorem bc_yes (h1 : OkSit ws cv cs) (h2 : BudOk budget) (h3 : CntOk cv count) (h4 : 0 ≤ (bcR ws cv count budget).b) : bcL ws cv cs count budget = (bcR ws cv count budget).best ∧ bcC ws cv cs count budget = 0 := by
  unfold bcL bcC
  rw [if_pos (by rw [bp_true]; exact ⟨h1, h2, h3, h4⟩), if_pos (by rw [bp_true]; exact h1), if_pos (by rw [bp_true]; exact ⟨h2, h3⟩), if_pos (by rw [bp_true]; exact h4)]
  exact ⟨rfl, rfl⟩
end
theorem start_ok {b : Int} (h : BudOk b) : SOk ⟨b, -1, []⟩ := ⟨by show -1 ≤ b; have := h.1; omega, h.2, by show -1 ≤ (-1 : Int); omega, by simp⟩
theorem bcR_ok {ws : List Int} {cv : List (List Int)} {count budget : Int} (hn : cv.length ≤ 20) (h : BudOk budget) : SOk (bcR ws cv count budget) :=
  node_ok (leafC_ok ws cv count) hn _ _ _ (chn_nil cv) (by show 0 ≤ budget; have := h.1; omega) (start_ok h)
theorem bcL_le (ws : List Int) (cv : List (List Int)) (cs : List Int) (count budget : Int) : (bcL ws cv cs count budget).length ≤ 20 := by
  by_cases h : OkSit ws cv cs ∧ BudOk budget ∧ CntOk cv count ∧ 0 ≤ (bcR ws cv count budget).b
  · rw [(bc_yes h.1 h.2.1 h.2.2.1 h.2.2.2).1]
    exact (bcR_ok h.1.c2 h.2.1).best
  · unfold bcL
    rw [if_neg (by rw [bp_true]; exact h)]
    simp
theorem denx_implBestChoice (ws : List Int) (cv : List (List Int)) (cs : List Int) (count budget : Int) : DenX Try.prog 14 [.v (sitV ws cv cs), xi count, xi budget] [.v (sitV ws cv cs), xi count, xi budget] (.tup [xints (bcL ws cv cs count budget), xi (bcC ws cv cs count budget)]) := by
  refine denx_of_awpG (ghs [] [3]) Try.func14 rfl (by kernel_rfl) (Nat.le_of_ble_eq_true rfl) (by simp +decide only [w_embA_nil, w_embA_cons, w_emb_v, w_emb_ol, w_emb_op, w_emb_agg, w_emb_tup, w_embL_nil, w_embL_cons, embL_i, List.map_cons, List.map_nil, List.nil_append, List.append_nil, List.cons_append, List.nodup_cons, List.nodup_nil, List.mem_cons, List.mem_nil_iff, List.not_mem_nil, ch_ch, ch_lit, lit_ch, Nat.reduceAdd]) mixed (by kernel_rfl) fun hl => ?_
  simp only [xlensL, xlens, lensL, lens, lensL_i, lensL_mapC, xlensL_i, maxI, and_true, true_and] at hl
  rw [Try.ntmps14]
  refine ex_start ?_
  by_cases h1 : OkSit ws cv cs
  case neg =>
    obtain ⟨e1, e2⟩ := bc_no (count := count) (budget := budget) h1
    rw [e1, e2]
    simp (config := { maxSteps := 1000000 }) +decide only [NoH, Old, OldL, nilQ, nilA, RechL, ReY, isNew, stepO, XPost, postN, XOk, updN, updU, isEff, avalue, aeff, ASt.eval, ASt.put, ASt.set, ASt.new, Nat.reduceDiv, Nat.reduceAdd, Int.reduceToNat, absV, absC, scalar, alen, acap, conc, flats, live, blkOf, aload, rd, part?, afieldAddr, afield, aindexAddr, cellsOf, afill, places, abuild, optI, asliceV, asliceS, szOk, srcCells, aappend, astore, amakeSlice, abuildSlice, snapL, mapO, treeL, AVal.tree, AVal.flatT, isFlat, ares, isFz, afroz, afrozB, lookupA, lookupH, tops, if_true, if_false, reduceCtorEq, forall_const, ite_true, ite_false, implies_true, walkS, tabS, Try.results14]
    refine callK (den_implValidSiting ws cv cs) (by first | exact .inl rfl | exact .inr rfl) ?_
    simp (config := { maxSteps := 1000000 }) +decide only [NoH, Old, OldL, nilQ, nilA, RechL, ReY, isNew, stepO, XPost, postN, XOk, updN, updU, isEff, avalue, aeff, ASt.eval, ASt.put, ASt.set, ASt.new, Nat.reduceDiv, Nat.reduceAdd, Int.reduceToNat, absV, absC, scalar, alen, acap, conc, flats, live, blkOf, aload, rd, part?, afieldAddr, afield, aindexAddr, cellsOf, afill, places, abuild, optI, asliceV, asliceS, szOk, srcCells, aappend, astore, amakeSlice, abuildSlice, snapL, mapO, treeL, AVal.tree, AVal.flatT, isFlat, ares, isFz, afroz, afrozB, lookupA, lookupH, tops, if_true, if_false, reduceCtorEq, forall_const, ite_true, ite_false, implies_true, walkS, tabS, Try.results14, eq_false h1, mapC_nil]
  have hn := h1.c2
  simp (config := { maxSteps := 1000000 }) +decide only [NoH, Old, OldL, nilQ, nilA, RechL, ReY, isNew, stepO, XPost, postN, XOk, updN, updU, isEff, avalue, aeff, ASt.eval, ASt.put, ASt.set, ASt.new, Nat.reduceDiv, Nat.reduceAdd, Int.reduceToNat, absV, absC, scalar, alen, acap, conc, flats, live, blkOf, aload, rd, part?, afieldAddr, afield, aindexAddr, cellsOf, afill, places, abuild, optI, asliceV, asliceS, szOk, srcCells, aappend, astore, amakeSlice, abuildSlice, snapL, mapO, treeL, AVal.tree, AVal.flatT, isFlat, ares, isFz, afroz, afrozB, lookupA, lookupH, tops, if_true, if_false, reduceCtorEq, forall_const, ite_true, ite_false, implies_true, walkS, tabS, Try.results14]
  refine callK (den_implValidSiting ws cv cs) (by first | exact .inl rfl | exact .inr rfl) ?_
  simp (config := { maxSteps := 1000000 }) +decide only [NoH, Old, OldL, nilQ, nilA, RechL, ReY, isNew, stepO, XPost, postN, XOk, updN, updU, isEff, avalue, aeff, ASt.eval, ASt.put, ASt.set, ASt.new, Nat.reduceDiv, Nat.reduceAdd, Int.reduceToNat, absV, absC, scalar, alen, acap, conc, flats, live, blkOf, aload, rd, part?, afieldAddr, afield, aindexAddr, cellsOf, afill, places, abuild, optI, asliceV, asliceS, szOk, srcCells, aappend, astore, amakeSlice, abuildSlice, snapL, mapO, treeL, AVal.tree, AVal.flatT, isFlat, ares, isFz, afroz, afrozB, lookupA, lookupH, tops, if_true, if_false, reduceCtorEq, forall_const, ite_true, ite_false, implies_true, walkS, tabS, Try.results14, eq_true h1]
  refine callK (den_budgetValid budget) (by first | exact .inl rfl | exact .inr rfl) ?_
  by_cases h2 : BudOk budget
  case neg =>
    obtain ⟨e1, e2⟩ := bc_bad (count := count) (budget := budget) h1 (fun h => h2 h.1)
    rw [e1, e2]
    simp (config := { maxSteps := 1000000 }) +decide only [NoH, Old, OldL, nilQ, nilA, RechL, ReY, isNew, stepO, XPost, postN, XOk, updN, updU, isEff, avalue, aeff, ASt.eval, ASt.put, ASt.set, ASt.new, Nat.reduceDiv, Nat.reduceAdd, Int.reduceToNat, absV, absC, scalar, alen, acap, conc, flats, live, blkOf, aload, rd, part?, afieldAddr, afield, aindexAddr, cellsOf, afill, places, abuild, optI, asliceV, asliceS, szOk, srcCells, aappend, astore, amakeSlice, abuildSlice, snapL, mapO, treeL, AVal.tree, AVal.flatT, isFlat, ares, isFz, afroz, afrozB, lookupA, lookupH, tops, if_true, if_false, reduceCtorEq, forall_const, ite_true, ite_false, implies_true, walkS, tabS, Try.results14, eq_false h2, mapC_nil]
  simp (config := { maxSteps := 1000000 }) +decide only [NoH, Old, OldL, nilQ, nilA, RechL, ReY, isNew, stepO, XPost, postN, XOk, updN, updU, isEff, avalue, aeff, ASt.eval, ASt.put, ASt.set, ASt.new, Nat.reduceDiv, Nat.reduceAdd, Int.reduceToNat, absV, absC, scalar, alen, acap, conc, flats, live, blkOf, aload, rd, part?, afieldAddr, afield, aindexAddr, cellsOf, afill, places, abuild, optI, asliceV, asliceS, szOk, srcCells, aappend, astore, amakeSlice, abuildSlice, snapL, mapO, treeL, AVal.tree, AVal.flatT, isFlat, ares, isFz, afroz, afrozB, lookupA, lookupH, tops, if_true, if_false, reduceCtorEq, forall_const, ite_true, ite_false, implies_true, walkS, tabS, Try.results14, eq_true h2]
  refine callK (den_within count 0 cv.length) (by first | exact .inl rfl | exact .inr rfl) ?_
  by_cases h3 : CntOk cv count
  case neg =>
    obtain ⟨e1, e2⟩ := bc_bad (count := count) (budget := budget) h1 (fun h => h3 h.2)
    rw [e1, e2]
    have h3' : ¬ (0 ≤ count ∧ count ≤ (cv.length : Int)) := h3
    simp (config := { maxSteps := 1000000 }) +decide only [NoH, Old, OldL, nilQ, nilA, RechL, ReY, isNew, stepO, XPost, postN, XOk, updN, updU, isEff, avalue, aeff, ASt.eval, ASt.put, ASt.set, ASt.new, Nat.reduceDiv, Nat.reduceAdd, Int.reduceToNat, absV, absC, scalar, alen, acap, conc, flats, live, blkOf, aload, rd, part?, afieldAddr, afield, aindexAddr, cellsOf, afill, places, abuild, optI, asliceV, asliceS, szOk, srcCells, aappend, astore, amakeSlice, abuildSlice, snapL, mapO, treeL, AVal.tree, AVal.flatT, isFlat, ares, isFz, afroz, afrozB, lookupA, lookupH, tops, if_true, if_false, reduceCtorEq, forall_const, ite_true, ite_false, implies_true, walkS, tabS, Try.results14, eq_false h3', mapC_nil]
  have h3' : 0 ≤ count ∧ count ≤ (cv.length : Int) := h3
  have hb1 := h2.1
  have hx := denx_choose ws cv cs count h1.w2 hn (cv.length + 1) [] ⟨budget, -1, []⟩ (by rw [nextOf_nil]; omega) (chn_nil cv) (by show 0 ≤ budget; omega) (start_ok h2)
  have hk := bcR_ok (ws := ws) (count := count) hn h2
  change DenX _ _ _ [seT ws cv cs [] (bcR ws cv count budget), _] _ at hx
  have ey : 0 ≤ (bcR ws cv count budget).b → bcL ws cv cs count budget = (bcR ws cv count budget).best ∧ bcC ws cv cs count budget = 0 := bc_yes h1 h2 h3
  have ef : ¬ 0 ≤ (bcR ws cv count budget).b → bcL ws cv cs count budget = [] ∧ bcC ws cv cs count budget = 5 := bc_full h1 h2 h3
  generalize bcR ws cv count budget = r at hx hk ey ef
  obtain ⟨rb, rm, rbest⟩ := r
  simp only [seT, xints, List.length_nil, mapC_nil] at hx
  simp (config := { maxSteps := 1000000 }) +decide only [NoH, Old, OldL, nilQ, nilA, RechL, ReY, isNew, stepO, XPost, postN, XOk, updN, updU, isEff, avalue, aeff, ASt.eval, ASt.put, ASt.set, ASt.new, Nat.reduceDiv, Nat.reduceAdd, Int.reduceToNat, absV, absC, scalar, alen, acap, conc, flats, live, blkOf, aload, rd, part?, afieldAddr, afield, aindexAddr, cellsOf, afill, places, abuild, optI, asliceV, asliceS, szOk, srcCells, aappend, astore, amakeSlice, abuildSlice, snapL, mapO, treeL, AVal.tree, AVal.flatT, isFlat, ares, isFz, afroz, afrozB, lookupA, lookupH, tops, if_true, if_false, reduceCtorEq, forall_const, ite_true, ite_false, implies_true, walkS, tabS, Try.results14, h3']
  refine callX (hx) (by simp (config := { maxSteps := 1000000 }) +decide only [NoH, Old, OldL, nilQ, nilA, RechL, ReY, isNew, stepO, XPost, postN, XOk, updN, updU, isEff, avalue, aeff, ASt.eval, ASt.put, ASt.set, ASt.new, Nat.reduceDiv, Nat.reduceAdd, Int.reduceToNat, absV, absC, scalar, alen, acap, conc, flats, live, blkOf, aload, rd, part?, afieldAddr, afield, aindexAddr, cellsOf, afill, places, abuild, optI, asliceV, asliceS, szOk, srcCells, aappend, astore, amakeSlice, abuildSlice, snapL, mapO, treeL, AVal.tree, AVal.flatT, isFlat, ares, isFz, afroz, afrozB, lookupA, lookupH, tops, if_true, if_false, reduceCtorEq, forall_const, ite_true, ite_false, implies_true, walkS, tabS, Try.results14, mapC_nil, List.length_nil, Nat.zero_le]) ?_
  have hbl := hk.best
  simp only at hbl ey ef
  have htb : List.take rbest.length rbest = rbest := List.take_of_length_le (by omega)
  by_cases h4 : 0 ≤ rb
  · obtain ⟨e1, e2⟩ := ey h4
    rw [e1, e2]
    have h5 : ¬ rb < 0 := by omega
    simp (config := { maxSteps := 1000000 }) +decide only [NoH, Old, OldL, nilQ, nilA, RechL, ReY, isNew, stepO, XPost, postN, XOk, updN, updU, isEff, avalue, aeff, ASt.eval, ASt.put, ASt.set, ASt.new, Nat.reduceDiv, Nat.reduceAdd, Int.reduceToNat, absV, absC, scalar, alen, acap, conc, flats, live, blkOf, aload, rd, part?, afieldAddr, afield, aindexAddr, cellsOf, afill, places, abuild, optI, asliceV, asliceS, szOk, srcCells, aappend, astore, amakeSlice, abuildSlice, snapL, mapO, treeL, AVal.tree, AVal.flatT, isFlat, ares, isFz, afroz, afrozB, lookupA, lookupH, tops, if_true, if_false, reduceCtorEq, forall_const, ite_true, ite_false, implies_true, walkS, tabS, Try.results14, eq_false h5, htb]
  · obtain ⟨e1, e2⟩ := ef h4
    rw [e1, e2]
    have h5 : rb < 0 := by omega
    simp (config := { maxSteps := 1000000 }) +decide only [NoH, Old, OldL, nilQ, nilA, RechL, ReY, isNew, stepO, XPost, postN, XOk, updN, updU, isEff, avalue, aeff, ASt.eval, ASt.put, ASt.set, ASt.new, Nat.reduceDiv, Nat.reduceAdd, Int.reduceToNat, absV, absC, scalar, alen, acap, conc, flats, live, blkOf, aload, rd, part?, afieldAddr, afield, aindexAddr, cellsOf, afill, places, abuild, optI, asliceV, asliceS, szOk, srcCells, aappend, astore, amakeSlice, abuildSlice, snapL, mapO, treeL, AVal.tree, AVal.flatT, isFlat, ares, isFz, afroz, afrozB, lookupA, lookupH, tops, if_true, if_false, reduceCtorEq, forall_const, ite_true, ite_false, implies_true, walkS, tabS, Try.results14, eq_true h5, htb, mapC_nil]
end Go.Proofs.Ytocbojbgadcpcaa
