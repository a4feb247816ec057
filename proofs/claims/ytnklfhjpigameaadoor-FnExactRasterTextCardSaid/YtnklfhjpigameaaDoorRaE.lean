/-
  OWN WORK: contracts of shares, people and changes of rasters.
  OWN WORK: contracts of the covered cells, of both sides, and of copies of rasters.
-/
import Derived.Test.YtnklfhjpigameaaDoorRaC
namespace Go.Proofs.YtnklfhjpigameaaDoor
open Go Go.Own Go.Proofs
set_option maxHeartbeats 4000000
set_option maxRecDepth 20000
set_option linter.unusedSimpArgs false
theorem den_szRaster (s w h : Int) (sv lv : List Int) (l : Int) (h0 : 0 ≤ l) (h1 : l ≤ 9223372036854775807) : Den Tryd.prog 4 [rasV s w h sv lv, .i l] (.i (sz l ((sv.length : Int) + lv.length))) := by
  refine den_of_awp Tryd.func4 rfl (by kernel_rfl) (Nat.le_of_ble_eq_true rfl) (by simp only [treeL, AVal.tree, treeL_i, treeL_ints, treeL_u8, treeL_append, Bool.and_self, Bool.and_true, Bool.true_and]) (by first | rfl | simp only [treeL, AVal.tree, treeL_i, treeL_ints, treeL_u8, treeL_append, Bool.and_self, Bool.and_true, Bool.true_and]) mixed (by kernel_rfl) fun hl => ?_
  simp only [lensL, lens, lensL_i, lensL_mapC, maxI, and_true, true_and] at hl
  rw [Tryd.ntmps4]
  refine ex_start ?_
  simp (config := { maxSteps := 1000000 }) +decide only [NoH, Old, OldL, nilQ, nilA, asgn, nz, RechL, ReY, isNew, stepO, XPost, postN, XOk, updN, updU, isEff, avalue, aeff, ASt.eval, ASt.put, ASt.set, ASt.new, Nat.reduceDiv, Nat.reduceAdd, Int.reduceToNat, absV, absC, scalar, alen, acap, conc, flats, live, blkOf, aload, rd, part?, afieldAddr, afield, aindexAddr, cellsOf, afill, places, abuild, optI, asliceV, asliceS, szOk, srcCells, aappend, acopy, astore, amakeSlice, abuildSlice, snapL, mapO, treeL, AVal.tree, AVal.flatT, isFlat, ares, isFz, afroz, afrozB, lookupA, lookupH, tops, if_true, if_false, reduceCtorEq, forall_const, ite_true, ite_false, implies_true, walkS, tabS, Tryd.results4]
  refine callK (den_szInt64S sv l h0 h1) (by first | exact .inl rfl | exact .inr rfl) ?_
  simp (config := { maxSteps := 1000000 }) +decide only [NoH, Old, OldL, nilQ, nilA, asgn, nz, RechL, ReY, isNew, stepO, XPost, postN, XOk, updN, updU, isEff, avalue, aeff, ASt.eval, ASt.put, ASt.set, ASt.new, Nat.reduceDiv, Nat.reduceAdd, Int.reduceToNat, absV, absC, scalar, alen, acap, conc, flats, live, blkOf, aload, rd, part?, afieldAddr, afield, aindexAddr, cellsOf, afill, places, abuild, optI, asliceV, asliceS, szOk, srcCells, aappend, acopy, astore, amakeSlice, abuildSlice, snapL, mapO, treeL, AVal.tree, AVal.flatT, isFlat, ares, isFz, afroz, afrozB, lookupA, lookupH, tops, if_true, if_false, reduceCtorEq, forall_const, ite_true, ite_false, implies_true, walkS, tabS, Tryd.results4]
  refine ⟨fun h => ?_, fun h => ?_⟩
  · rw [sz_neg] at h
    rw [sz_lt (by omega)]
  · have h' := h
    rw [sz_neg] at h'
    have e := sz_val h'
    refine callK (den_szInt64S lv _ (by omega) (by omega)) (by first | exact .inl rfl | exact .inr rfl) ?_
    simp (config := { maxSteps := 1000000 }) +decide only [NoH, Old, OldL, nilQ, nilA, asgn, nz, RechL, ReY, isNew, stepO, XPost, postN, XOk, updN, updU, isEff, avalue, aeff, ASt.eval, ASt.put, ASt.set, ASt.new, Nat.reduceDiv, Nat.reduceAdd, Int.reduceToNat, absV, absC, scalar, alen, acap, conc, flats, live, blkOf, aload, rd, part?, afieldAddr, afield, aindexAddr, cellsOf, afill, places, abuild, optI, asliceV, asliceS, szOk, srcCells, aappend, acopy, astore, amakeSlice, abuildSlice, snapL, mapO, treeL, AVal.tree, AVal.flatT, isFlat, ares, isFz, afroz, afrozB, lookupA, lookupH, tops, if_true, if_false, reduceCtorEq, forall_const, ite_true, ite_false, implies_true, walkS, tabS, Tryd.results4]
    rw [sz_sz h]
    refine ⟨fun h2 => ?_, fun _ => rfl⟩
    rw [sz_neg] at h2
    rw [sz_lt h2]
theorem den_toRaster (s w h : Int) (sv lv : List Int) (hs : sv.length ≤ 1000000000000) (hl' : lv.length ≤ 1000000000000) : Den Tryd.prog 6 [rasV s w h sv lv] (rasV s w h sv lv) := by
  refine den_of_awp Tryd.func6 rfl (by kernel_rfl) (Nat.le_of_ble_eq_true rfl) (by simp only [treeL, AVal.tree, treeL_i, treeL_ints, treeL_u8, treeL_append, Bool.and_self, Bool.and_true, Bool.true_and]) (by first | rfl | simp only [treeL, AVal.tree, treeL_i, treeL_ints, treeL_u8, treeL_append, Bool.and_self, Bool.and_true, Bool.true_and]) mixed (by kernel_rfl) fun hl => ?_
  simp only [lensL, lens, lensL_i, lensL_mapC, maxI, and_true, true_and] at hl
  rw [Tryd.ntmps6]
  refine ex_start ?_
  simp (config := { maxSteps := 1000000 }) +decide only [NoH, Old, OldL, nilQ, nilA, asgn, nz, RechL, ReY, isNew, stepO, XPost, postN, XOk, updN, updU, isEff, avalue, aeff, ASt.eval, ASt.put, ASt.set, ASt.new, Nat.reduceDiv, Nat.reduceAdd, Int.reduceToNat, absV, absC, scalar, alen, acap, conc, flats, live, blkOf, aload, rd, part?, afieldAddr, afield, aindexAddr, cellsOf, afill, places, abuild, optI, asliceV, asliceS, szOk, srcCells, aappend, acopy, astore, amakeSlice, abuildSlice, snapL, mapO, treeL, AVal.tree, AVal.flatT, isFlat, ares, isFz, afroz, afrozB, lookupA, lookupH, tops, if_true, if_false, reduceCtorEq, forall_const, ite_true, ite_false, implies_true, walkS, tabS, Tryd.results6]
  refine callK (den_toInt64S sv hs) (by first | exact .inl rfl | exact .inr rfl) ?_
  simp (config := { maxSteps := 1000000 }) +decide only [NoH, Old, OldL, nilQ, nilA, asgn, nz, RechL, ReY, isNew, stepO, XPost, postN, XOk, updN, updU, isEff, avalue, aeff, ASt.eval, ASt.put, ASt.set, ASt.new, Nat.reduceDiv, Nat.reduceAdd, Int.reduceToNat, absV, absC, scalar, alen, acap, conc, flats, live, blkOf, aload, rd, part?, afieldAddr, afield, aindexAddr, cellsOf, afill, places, abuild, optI, asliceV, asliceS, szOk, srcCells, aappend, acopy, astore, amakeSlice, abuildSlice, snapL, mapO, treeL, AVal.tree, AVal.flatT, isFlat, ares, isFz, afroz, afrozB, lookupA, lookupH, tops, if_true, if_false, reduceCtorEq, forall_const, ite_true, ite_false, implies_true, walkS, tabS, Tryd.results6]
  refine callK (den_toInt64S lv hl') (by first | exact .inl rfl | exact .inr rfl) ?_
  simp (config := { maxSteps := 1000000 }) +decide only [NoH, Old, OldL, nilQ, nilA, asgn, nz, RechL, ReY, isNew, stepO, XPost, postN, XOk, updN, updU, isEff, avalue, aeff, ASt.eval, ASt.put, ASt.set, ASt.new, Nat.reduceDiv, Nat.reduceAdd, Int.reduceToNat, absV, absC, scalar, alen, acap, conc, flats, live, blkOf, aload, rd, part?, afieldAddr, afield, aindexAddr, cellsOf, afill, places, abuild, optI, asliceV, asliceS, szOk, srcCells, aappend, acopy, astore, amakeSlice, abuildSlice, snapL, mapO, treeL, AVal.tree, AVal.flatT, isFlat, ares, isFz, afroz, afrozB, lookupA, lookupH, tops, if_true, if_false, reduceCtorEq, forall_const, ite_true, ite_false, implies_true, walkS, tabS, Tryd.results6, List.take_succ_cons, List.take_nil]
theorem den_eqRaster (s w h : Int) (sv lv : List Int) (s' w' h' : Int) (sv' lv' : List Int) : Den Tryd.prog 8 [rasV s w h sv lv, rasV s' w' h' sv' lv'] (.b (bp (s = s' ∧ w = w' ∧ h = h' ∧ sv = sv' ∧ lv = lv'))) := by
  refine den_of_awp Tryd.func8 rfl (by kernel_rfl) (Nat.le_of_ble_eq_true rfl) (by simp only [treeL, AVal.tree, treeL_i, treeL_ints, treeL_u8, treeL_append, Bool.and_self, Bool.and_true, Bool.true_and]) (by first | rfl | simp only [treeL, AVal.tree, treeL_i, treeL_ints, treeL_u8, treeL_append, Bool.and_self, Bool.and_true, Bool.true_and]) mixed (by kernel_rfl) fun hl => ?_
  simp only [lensL, lens, lensL_i, lensL_mapC, maxI, and_true, true_and] at hl
  rw [Tryd.ntmps8]
  refine ex_start ?_
  simp (config := { maxSteps := 1000000 }) +decide only [NoH, Old, OldL, nilQ, nilA, asgn, nz, RechL, ReY, isNew, stepO, XPost, postN, XOk, updN, updU, isEff, avalue, aeff, ASt.eval, ASt.put, ASt.set, ASt.new, Nat.reduceDiv, Nat.reduceAdd, Int.reduceToNat, absV, absC, scalar, alen, acap, conc, flats, live, blkOf, aload, rd, part?, afieldAddr, afield, aindexAddr, cellsOf, afill, places, abuild, optI, asliceV, asliceS, szOk, srcCells, aappend, acopy, astore, amakeSlice, abuildSlice, snapL, mapO, treeL, AVal.tree, AVal.flatT, isFlat, ares, isFz, afroz, afrozB, lookupA, lookupH, tops, if_true, if_false, reduceCtorEq, forall_const, ite_true, ite_false, implies_true, walkS, tabS, Tryd.results8]
  refine ⟨fun h1 hr => h1 hr.1, fun h1 => ⟨fun h2 hr => h2 hr.2.1, fun h2 => ⟨fun h3 hr => h3 hr.2.2.1, fun h3 => ?_⟩⟩⟩
  refine callK (den_eqInt64S sv sv') (by first | exact .inl rfl | exact .inr rfl) ?_
  simp (config := { maxSteps := 1000000 }) +decide only [NoH, Old, OldL, nilQ, nilA, asgn, nz, RechL, ReY, isNew, stepO, XPost, postN, XOk, updN, updU, isEff, avalue, aeff, ASt.eval, ASt.put, ASt.set, ASt.new, Nat.reduceDiv, Nat.reduceAdd, Int.reduceToNat, absV, absC, scalar, alen, acap, conc, flats, live, blkOf, aload, rd, part?, afieldAddr, afield, aindexAddr, cellsOf, afill, places, abuild, optI, asliceV, asliceS, szOk, srcCells, aappend, acopy, astore, amakeSlice, abuildSlice, snapL, mapO, treeL, AVal.tree, AVal.flatT, isFlat, ares, isFz, afroz, afrozB, lookupA, lookupH, tops, if_true, if_false, reduceCtorEq, forall_const, ite_true, ite_false, implies_true, walkS, tabS, Tryd.results8]
  refine ⟨fun h4 hr => h4 hr.2.2.2.1, fun h4 => ?_⟩
  refine callK (den_eqInt64S lv lv') (by first | exact .inl rfl | exact .inr rfl) ?_
  simp (config := { maxSteps := 1000000 }) +decide only [NoH, Old, OldL, nilQ, nilA, asgn, nz, RechL, ReY, isNew, stepO, XPost, postN, XOk, updN, updU, isEff, avalue, aeff, ASt.eval, ASt.put, ASt.set, ASt.new, Nat.reduceDiv, Nat.reduceAdd, Int.reduceToNat, absV, absC, scalar, alen, acap, conc, flats, live, blkOf, aload, rd, part?, afieldAddr, afield, aindexAddr, cellsOf, afill, places, abuild, optI, asliceV, asliceS, szOk, srcCells, aappend, acopy, astore, amakeSlice, abuildSlice, snapL, mapO, treeL, AVal.tree, AVal.flatT, isFlat, ares, isFz, afroz, afrozB, lookupA, lookupH, tops, if_true, if_false, reduceCtorEq, forall_const, ite_true, ite_false, implies_true, walkS, tabS, Tryd.results8]
  exact ⟨fun h5 hr => h5 hr.2.2.2.2, fun h5 => ⟨h1, h2, h3, h4, h5⟩⟩
noncomputable def covN (s w h : Int) (sv lv : List Int) : Int := if bp (OkRas s w h sv lv) then (cov sv).length else 0
theorem covN_yes {s w h : Int} {sv lv : List Int} (h1 : OkRas s w h sv lv) : covN s w h sv lv = (cov sv).length := if_pos (by rw [bp_true]; exact h1)
theorem covN_no {s w h : Int} {sv lv : List Int} (h1 : ¬ OkRas s w h sv lv) : covN s w h sv lv = 0 := if_neg (by rw [bp_true]; exact h1)
theorem areaW_zero (s : Int) : (0 : Int) = IntKind.i64.wrap (IntKind.i64.wrap (0 * s) * s) := by
  have e : IntKind.i64.wrap 0 = 0 := rfl
  rw [Int.zero_mul, e, Int.zero_mul, e]
theorem ok_pos {s w h : Int} {sv lv : List Int} (h1 : OkRas s w h sv lv) : (sv.length : Int) ≠ 0 ∧ sv.length ≤ 576 := by
  have h2 := h1.2.1
  have h3 := size_bound h1.1
  have h4 : 2 * 2 ≤ w * h := Int.mul_le_mul (by have := h1.1.2.1; omega) (by have := h1.1.2.2.1; omega) (by omega) (by have := h1.1.2.1; omega)
  omega
noncomputable def shareV (s w h : Int) (sv lv : List Int) : AVal := if bp (OkRas s w h sv lv) then .tup [.i (IntKind.i64.wrap ((IntKind.i64.wrap ((cov sv).length * 1000000)).tdiv sv.length)), .i 0] else .tup [.i 0, .i 1]
theorem shareV_yes {s w h : Int} {sv lv : List Int} (h1 : OkRas s w h sv lv) : shareV s w h sv lv = .tup [.i (IntKind.i64.wrap ((IntKind.i64.wrap ((cov sv).length * 1000000)).tdiv sv.length)), .i 0] := if_pos (by rw [bp_true]; exact h1)
theorem shareV_no {s w h : Int} {sv lv : List Int} (h1 : ¬ OkRas s w h sv lv) : shareV s w h sv lv = .tup [.i 0, .i 1] := if_neg (by rw [bp_true]; exact h1)
theorem tree_ite {b : Bool} {x y : AVal} (h1 : x.tree = true) (h2 : y.tree = true) : (if b then x else y).tree = true := by cases b <;> assumption
theorem tree_shareV (s w h : Int) (sv lv : List Int) : (shareV s w h sv lv).tree = true := tree_ite rfl rfl
theorem covK_mem (sv : List Int) : ∀ (k : Nat) (c : Int), c ∈ covK sv k → ∃ n : Nat, c = n ∧ n < k ∧ 0 ≤ sv.getD n (-1)
  | 0, c, h => by simp [covK] at h
  | k + 1, c, h => by
    unfold covK at h
    split at h
    · rename_i h0
      rcases List.mem_append.1 h with h | h
      · obtain ⟨n, e, h1, h2⟩ := covK_mem sv k c h
        exact ⟨n, e, by omega, h2⟩
      · exact ⟨k, by simpa using h, by omega, h0⟩
    · obtain ⟨n, e, h1, h2⟩ := covK_mem sv k c h
      exact ⟨n, e, by omega, h2⟩
theorem cov_get {sv : List Int} {j : Nat} (h : j < (cov sv).length) : ∃ n : Nat, (cov sv)[j] = n ∧ n < sv.length := by
  obtain ⟨n, e, h1, _⟩ := covK_mem sv sv.length _ (List.getElem_mem h)
  exact ⟨n, e, h1⟩
def PeoOk (sv ws : List Int) : Prop := ws.length = sv.length ∧ ∀ x ∈ ws, 0 ≤ x ∧ x ≤ 1000000
noncomputable def peoV (s w h : Int) (sv lv ws : List Int) : AVal := if bp (OkRas s w h sv lv) then (if bp (PeoOk sv ws) then .tup [.i (sumAt ws (cov sv)), .i 0] else .tup [.i 0, .i 6]) else .tup [.i 0, .i 1]
theorem peoV_yes {s w h : Int} {sv lv ws : List Int} (h1 : OkRas s w h sv lv) (h2 : PeoOk sv ws) : peoV s w h sv lv ws = .tup [.i (sumAt ws (cov sv)), .i 0] := by
  unfold peoV; rw [if_pos (by rw [bp_true]; exact h1), if_pos (by rw [bp_true]; exact h2)]
theorem peoV_bad {s w h : Int} {sv lv ws : List Int} (h1 : OkRas s w h sv lv) (h2 : ¬ PeoOk sv ws) : peoV s w h sv lv ws = .tup [.i 0, .i 6] := by
  unfold peoV; rw [if_pos (by rw [bp_true]; exact h1), if_neg (by rw [bp_true]; exact h2)]
theorem peoV_no {s w h : Int} {sv lv ws : List Int} (h1 : ¬ OkRas s w h sv lv) : peoV s w h sv lv ws = .tup [.i 0, .i 1] := by
  unfold peoV; rw [if_neg (by rw [bp_true]; exact h1)]
theorem tree_peoV (s w h : Int) (sv lv ws : List Int) : (peoV s w h sv lv ws).tree = true := tree_ite (tree_ite rfl rfl) rfl
end Go.Proofs.YtnklfhjpigameaaDoor
