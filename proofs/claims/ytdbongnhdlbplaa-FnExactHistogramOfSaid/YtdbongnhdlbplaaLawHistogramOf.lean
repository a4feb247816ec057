/-
  For every input the law FnExactHistogramOf returns true and leaves its arguments as they were: no condition.
-/
import Derived.Test.YtdbongnhdlbplaaRaI
import Derived.Test.YtdbongnhdlbplaaLawBase
namespace Go.Proofs.Ytdbongnhdlbplaa
open Go Go.Own Go.Proofs Go.ChangeShapes Go.WideShapes Go.ChangeAt Go.RowKit
set_option maxHeartbeats 4000000
set_option maxRecDepth 20000
set_option linter.unusedSimpArgs false
theorem den_implHistogramOf (s w h : Int) (sv lv : List Int) (low step many : Int) : Den Try.prog 33 [rasV s w h sv lv, .i low, .i step, .i many] (.tup [ints (hisL s w h sv lv low step many), .i (hisC s w h sv lv low step many)]) := by
  have h : DenX Try.prog 33 ([rasV s w h sv lv, .i low, .i step, .i many].map XT.v) _ _ := denx_implHistogramOf s w h sv lv low step many
  exact h.den (by simp only [treeL, AVal.tree, treeL_i, Bool.and_self, Bool.and_true]) (by simp only [XT.freeze, freezeL, freezeL_i]) (by simp only [treeL, AVal.tree, treeL_i, Bool.and_self, Bool.and_true])
theorem den_law (s0 w0 h0 : Int) (sv0 lv0 : List Int) (_ : In64 s0 ∧ In64 w0 ∧ In64 h0 ∧ (∀ x ∈ sv0, In64 x) ∧ (∀ x ∈ lv0, In64 x)) (n1 : Int) (_ : In64 n1) (n2 : Int) (_ : In64 n2) (n3 : Int) (_ : In64 n3) : Den Try.prog 8 [rasV s0 w0 h0 sv0 lv0, .i n1, .i n2, .i n3] (.b true) := by
  refine den_of_awp Try.func8 rfl (by kernel_rfl) (Nat.le_of_ble_eq_true rfl) (by simp only [treeL, AVal.tree, treeL_i, treeL_ints, treeL_append, Bool.and_self, Bool.and_true, Bool.true_and]) (by first | rfl | simp only [treeL, AVal.tree, treeL_i, treeL_ints, treeL_append, Bool.and_self, Bool.and_true, Bool.true_and]) mixed (by kernel_rfl) fun hl => ?_
  simp only [lensL, lens, lensL_i, lensL_mapC, maxI, and_true, true_and] at hl
  rw [Try.ntmps8]
  refine ex_start ?_
  simp (config := {decide := true, maxSteps := 1000000}) only [nilQ, nilA, RechL, ReY, isNew, stepO, XPost, postN, XOk, updN, updU, isEff, avalue, aeff, ASt.eval, ASt.put, ASt.set, ASt.new, Nat.reduceDiv, Nat.reduceAdd, Int.reduceToNat, absV, absC, scalar, alen, acap, conc, flats, live, blkOf, aload, rd, part?, afieldAddr, afield, aindexAddr, cellsOf, afill, places, abuild, optI, asliceV, asliceS, szOk, srcCells, aappend, astore, amakeSlice, abuildSlice, snapL, mapO, treeL, AVal.tree, AVal.flatT, isFlat, ares, lookupA, lookupH, tops, if_true, if_false, reduceCtorEq, forall_const, ite_true, ite_false, implies_true, walkS, tabS, Try.results8]
  refine callK (den_szRaster s0 w0 h0 sv0 lv0 1048576 (by omega) (by omega)) (by first | exact .inl rfl | exact .inr rfl) ?_
  simp (config := {decide := true, maxSteps := 1000000}) only [nilQ, nilA, RechL, ReY, isNew, stepO, XPost, postN, XOk, updN, updU, isEff, avalue, aeff, ASt.eval, ASt.put, ASt.set, ASt.new, Nat.reduceDiv, Nat.reduceAdd, Int.reduceToNat, absV, absC, scalar, alen, acap, conc, flats, live, blkOf, aload, rd, part?, afieldAddr, afield, aindexAddr, cellsOf, afill, places, abuild, optI, asliceV, asliceS, szOk, srcCells, aappend, astore, amakeSlice, abuildSlice, snapL, mapO, treeL, AVal.tree, AVal.flatT, isFlat, ares, lookupA, lookupH, tops, if_true, if_false, reduceCtorEq, forall_const, ite_true, ite_false, implies_true, walkS, tabS, Try.results8]
  intro z0
  have y0 := z0
  rw [sz_neg] at y0
  have e0 := sz_val y0
  have hb0 : sv0.length ≤ 1000000000000 := by omega
  have hc0 : lv0.length ≤ 1000000000000 := by omega
  have c1 := den_specHistogramOf s0 w0 h0 sv0 lv0 n1 n2 n3 
  have c2 := denx_implHistogramOf s0 w0 h0 sv0 lv0 n1 n2 n3 
  have c3 := den_implHistogramOf s0 w0 h0 sv0 lv0 n1 n2 n3 
  have hr := his_len s0 w0 h0 sv0 lv0 n1 n2 n3
  generalize hisL s0 w0 h0 sv0 lv0 n1 n2 n3 = R at hr c1 c2 c3
  generalize hisC s0 w0 h0 sv0 lv0 n1 n2 n3 = C at c1 c2 c3
  refine callK (den_toRaster s0 w0 h0 sv0 lv0 hb0 hc0) (by first | exact .inl rfl | exact .inr rfl) ?_
  simp (config := {decide := true, maxSteps := 1000000}) only [nilQ, nilA, RechL, ReY, isNew, stepO, XPost, postN, XOk, updN, updU, isEff, avalue, aeff, ASt.eval, ASt.put, ASt.set, ASt.new, Nat.reduceDiv, Nat.reduceAdd, Int.reduceToNat, absV, absC, scalar, alen, acap, conc, flats, live, blkOf, aload, rd, part?, afieldAddr, afield, aindexAddr, cellsOf, afill, places, abuild, optI, asliceV, asliceS, szOk, srcCells, aappend, astore, amakeSlice, abuildSlice, snapL, mapO, treeL, AVal.tree, AVal.flatT, isFlat, ares, lookupA, lookupH, tops, if_true, if_false, reduceCtorEq, forall_const, ite_true, ite_false, implies_true, walkS, tabS, Try.results8]
  refine callK (c1) (by first | exact .inl rfl | exact .inr rfl) ?_
  simp (config := {decide := true, maxSteps := 1000000}) only [nilQ, nilA, RechL, ReY, isNew, stepO, XPost, postN, XOk, updN, updU, isEff, avalue, aeff, ASt.eval, ASt.put, ASt.set, ASt.new, Nat.reduceDiv, Nat.reduceAdd, Int.reduceToNat, absV, absC, scalar, alen, acap, conc, flats, live, blkOf, aload, rd, part?, afieldAddr, afield, aindexAddr, cellsOf, afill, places, abuild, optI, asliceV, asliceS, szOk, srcCells, aappend, astore, amakeSlice, abuildSlice, snapL, mapO, treeL, AVal.tree, AVal.flatT, isFlat, ares, lookupA, lookupH, tops, if_true, if_false, reduceCtorEq, forall_const, ite_true, ite_false, implies_true, walkS, tabS, Try.results8]
  refine callX (denx_toRaster s0 w0 h0 sv0 lv0 hb0 hc0) (by simp (config := {decide := true, maxSteps := 1000000}) only [nilQ, nilA, RechL, ReY, isNew, stepO, XPost, postN, XOk, updN, updU, isEff, avalue, aeff, ASt.eval, ASt.put, ASt.set, ASt.new, Nat.reduceDiv, Nat.reduceAdd, Int.reduceToNat, absV, absC, scalar, alen, acap, conc, flats, live, blkOf, aload, rd, part?, afieldAddr, afield, aindexAddr, cellsOf, afill, places, abuild, optI, asliceV, asliceS, szOk, srcCells, aappend, astore, amakeSlice, abuildSlice, snapL, mapO, treeL, AVal.tree, AVal.flatT, isFlat, ares, lookupA, lookupH, tops, if_true, if_false, reduceCtorEq, forall_const, ite_true, ite_false, implies_true, walkS, tabS, Try.results8]) ?_
  simp (config := {decide := true, maxSteps := 1000000}) only [nilQ, nilA, RechL, ReY, isNew, stepO, XPost, postN, XOk, updN, updU, isEff, avalue, aeff, ASt.eval, ASt.put, ASt.set, ASt.new, Nat.reduceDiv, Nat.reduceAdd, Int.reduceToNat, absV, absC, scalar, alen, acap, conc, flats, live, blkOf, aload, rd, part?, afieldAddr, afield, aindexAddr, cellsOf, afill, places, abuild, optI, asliceV, asliceS, szOk, srcCells, aappend, astore, amakeSlice, abuildSlice, snapL, mapO, treeL, AVal.tree, AVal.flatT, isFlat, ares, lookupA, lookupH, tops, if_true, if_false, reduceCtorEq, forall_const, ite_true, ite_false, implies_true, walkS, tabS, Try.results8]
  refine callX (c2) (by simp (config := {decide := true, maxSteps := 1000000}) only [nilQ, nilA, RechL, ReY, isNew, stepO, XPost, postN, XOk, updN, updU, isEff, avalue, aeff, ASt.eval, ASt.put, ASt.set, ASt.new, Nat.reduceDiv, Nat.reduceAdd, Int.reduceToNat, absV, absC, scalar, alen, acap, conc, flats, live, blkOf, aload, rd, part?, afieldAddr, afield, aindexAddr, cellsOf, afill, places, abuild, optI, asliceV, asliceS, szOk, srcCells, aappend, astore, amakeSlice, abuildSlice, snapL, mapO, treeL, AVal.tree, AVal.flatT, isFlat, ares, lookupA, lookupH, tops, if_true, if_false, reduceCtorEq, forall_const, ite_true, ite_false, implies_true, walkS, tabS, Try.results8]) ?_
  simp (config := {decide := true, maxSteps := 1000000}) only [nilQ, nilA, RechL, ReY, isNew, stepO, XPost, postN, XOk, updN, updU, isEff, avalue, aeff, ASt.eval, ASt.put, ASt.set, ASt.new, Nat.reduceDiv, Nat.reduceAdd, Int.reduceToNat, absV, absC, scalar, alen, acap, conc, flats, live, blkOf, aload, rd, part?, afieldAddr, afield, aindexAddr, cellsOf, afill, places, abuild, optI, asliceV, asliceS, szOk, srcCells, aappend, astore, amakeSlice, abuildSlice, snapL, mapO, treeL, AVal.tree, AVal.flatT, isFlat, ares, lookupA, lookupH, tops, if_true, if_false, reduceCtorEq, forall_const, ite_true, ite_false, implies_true, walkS, tabS, Try.results8]
  refine callK (den_eqInt64S R R) (by first | exact .inl rfl | exact .inr rfl) ?_
  simp (config := {decide := true, maxSteps := 1000000}) only [nilQ, nilA, RechL, ReY, isNew, stepO, XPost, postN, XOk, updN, updU, isEff, avalue, aeff, ASt.eval, ASt.put, ASt.set, ASt.new, Nat.reduceDiv, Nat.reduceAdd, Int.reduceToNat, absV, absC, scalar, alen, acap, conc, flats, live, blkOf, aload, rd, part?, afieldAddr, afield, aindexAddr, cellsOf, afill, places, abuild, optI, asliceV, asliceS, szOk, srcCells, aappend, astore, amakeSlice, abuildSlice, snapL, mapO, treeL, AVal.tree, AVal.flatT, isFlat, ares, lookupA, lookupH, tops, if_true, if_false, reduceCtorEq, forall_const, ite_true, ite_false, implies_true, walkS, tabS, Try.results8]
  refine callK (den_toRaster s0 w0 h0 sv0 lv0 hb0 hc0) (by first | exact .inl rfl | exact .inr rfl) ?_
  simp (config := {decide := true, maxSteps := 1000000}) only [nilQ, nilA, RechL, ReY, isNew, stepO, XPost, postN, XOk, updN, updU, isEff, avalue, aeff, ASt.eval, ASt.put, ASt.set, ASt.new, Nat.reduceDiv, Nat.reduceAdd, Int.reduceToNat, absV, absC, scalar, alen, acap, conc, flats, live, blkOf, aload, rd, part?, afieldAddr, afield, aindexAddr, cellsOf, afill, places, abuild, optI, asliceV, asliceS, szOk, srcCells, aappend, astore, amakeSlice, abuildSlice, snapL, mapO, treeL, AVal.tree, AVal.flatT, isFlat, ares, lookupA, lookupH, tops, if_true, if_false, reduceCtorEq, forall_const, ite_true, ite_false, implies_true, walkS, tabS, Try.results8]
  refine callK (den_eqRaster s0 w0 h0 sv0 lv0 s0 w0 h0 sv0 lv0) (by first | exact .inl rfl | exact .inr rfl) ?_
  simp (config := {decide := true, maxSteps := 1000000}) only [nilQ, nilA, RechL, ReY, isNew, stepO, XPost, postN, XOk, updN, updU, isEff, avalue, aeff, ASt.eval, ASt.put, ASt.set, ASt.new, Nat.reduceDiv, Nat.reduceAdd, Int.reduceToNat, absV, absC, scalar, alen, acap, conc, flats, live, blkOf, aload, rd, part?, afieldAddr, afield, aindexAddr, cellsOf, afill, places, abuild, optI, asliceV, asliceS, szOk, srcCells, aappend, astore, amakeSlice, abuildSlice, snapL, mapO, treeL, AVal.tree, AVal.flatT, isFlat, ares, lookupA, lookupH, tops, if_true, if_false, reduceCtorEq, forall_const, ite_true, ite_false, implies_true, walkS, tabS, Try.results8]
  refine callX (denx_markRaster s0 w0 h0 sv0 lv0 (1) (by omega) (by omega) hb0 hc0) (by simp (config := {decide := true, maxSteps := 1000000}) only [nilQ, nilA, RechL, ReY, isNew, stepO, XPost, postN, XOk, updN, updU, isEff, avalue, aeff, ASt.eval, ASt.put, ASt.set, ASt.new, Nat.reduceDiv, Nat.reduceAdd, Int.reduceToNat, absV, absC, scalar, alen, acap, conc, flats, live, blkOf, aload, rd, part?, afieldAddr, afield, aindexAddr, cellsOf, afill, places, abuild, optI, asliceV, asliceS, szOk, srcCells, aappend, astore, amakeSlice, abuildSlice, snapL, mapO, treeL, AVal.tree, AVal.flatT, isFlat, ares, lookupA, lookupH, tops, if_true, if_false, reduceCtorEq, forall_const, ite_true, ite_false, implies_true, walkS, tabS, Try.results8, marks_length]) ?_
  have n1 : ¬ ((1 + sv0.length + lv0.length : Int) < 0) := by omega
  simp (config := {decide := true, maxSteps := 1000000}) only [nilQ, nilA, RechL, ReY, isNew, stepO, XPost, postN, XOk, updN, updU, isEff, avalue, aeff, ASt.eval, ASt.put, ASt.set, ASt.new, Nat.reduceDiv, Nat.reduceAdd, Int.reduceToNat, absV, absC, scalar, alen, acap, conc, flats, live, blkOf, aload, rd, part?, afieldAddr, afield, aindexAddr, cellsOf, afill, places, abuild, optI, asliceV, asliceS, szOk, srcCells, aappend, astore, amakeSlice, abuildSlice, snapL, mapO, treeL, AVal.tree, AVal.flatT, isFlat, ares, lookupA, lookupH, tops, if_true, if_false, reduceCtorEq, forall_const, ite_true, ite_false, implies_true, walkS, tabS, Try.results8, marks_length, n1]
  refine callK (den_eqInt64S R R) (by first | exact .inl rfl | exact .inr rfl) ?_
  simp (config := {decide := true, maxSteps := 1000000}) only [nilQ, nilA, RechL, ReY, isNew, stepO, XPost, postN, XOk, updN, updU, isEff, avalue, aeff, ASt.eval, ASt.put, ASt.set, ASt.new, Nat.reduceDiv, Nat.reduceAdd, Int.reduceToNat, absV, absC, scalar, alen, acap, conc, flats, live, blkOf, aload, rd, part?, afieldAddr, afield, aindexAddr, cellsOf, afill, places, abuild, optI, asliceV, asliceS, szOk, srcCells, aappend, astore, amakeSlice, abuildSlice, snapL, mapO, treeL, AVal.tree, AVal.flatT, isFlat, ares, lookupA, lookupH, tops, if_true, if_false, reduceCtorEq, forall_const, ite_true, ite_false, implies_true, walkS, tabS, Try.results8, marks_length]
  refine callX (denx_markInt64S R 1 (by omega) (by omega) hr) (by simp (config := {decide := true, maxSteps := 1000000}) only [nilQ, nilA, RechL, ReY, isNew, stepO, XPost, postN, XOk, updN, updU, isEff, avalue, aeff, ASt.eval, ASt.put, ASt.set, ASt.new, Nat.reduceDiv, Nat.reduceAdd, Int.reduceToNat, absV, absC, scalar, alen, acap, conc, flats, live, blkOf, aload, rd, part?, afieldAddr, afield, aindexAddr, cellsOf, afill, places, abuild, optI, asliceV, asliceS, szOk, srcCells, aappend, astore, amakeSlice, abuildSlice, snapL, mapO, treeL, AVal.tree, AVal.flatT, isFlat, ares, lookupA, lookupH, tops, if_true, if_false, reduceCtorEq, forall_const, ite_true, ite_false, implies_true, walkS, tabS, Try.results8, marks_length]) ?_
  simp (config := {decide := true, maxSteps := 1000000}) only [nilQ, nilA, RechL, ReY, isNew, stepO, XPost, postN, XOk, updN, updU, isEff, avalue, aeff, ASt.eval, ASt.put, ASt.set, ASt.new, Nat.reduceDiv, Nat.reduceAdd, Int.reduceToNat, absV, absC, scalar, alen, acap, conc, flats, live, blkOf, aload, rd, part?, afieldAddr, afield, aindexAddr, cellsOf, afill, places, abuild, optI, asliceV, asliceS, szOk, srcCells, aappend, astore, amakeSlice, abuildSlice, snapL, mapO, treeL, AVal.tree, AVal.flatT, isFlat, ares, lookupA, lookupH, tops, if_true, if_false, reduceCtorEq, forall_const, ite_true, ite_false, implies_true, walkS, tabS, Try.results8, marks_length, marks_take]
  have n2 : ¬ ((1 : Int) + R.length < 0) := by omega
  refine callK (den_held 1 R.length (by omega) (by omega) hr) (by first | exact .inl rfl | exact .inr rfl) ?_
  simp (config := {decide := true, maxSteps := 1000000}) only [nilQ, nilA, RechL, ReY, isNew, stepO, XPost, postN, XOk, updN, updU, isEff, avalue, aeff, ASt.eval, ASt.put, ASt.set, ASt.new, Nat.reduceDiv, Nat.reduceAdd, Int.reduceToNat, absV, absC, scalar, alen, acap, conc, flats, live, blkOf, aload, rd, part?, afieldAddr, afield, aindexAddr, cellsOf, afill, places, abuild, optI, asliceV, asliceS, szOk, srcCells, aappend, astore, amakeSlice, abuildSlice, snapL, mapO, treeL, AVal.tree, AVal.flatT, isFlat, ares, lookupA, lookupH, tops, if_true, if_false, reduceCtorEq, forall_const, ite_true, ite_false, implies_true, walkS, tabS, Try.results8, n2]
  refine callK (den_toRaster s0 w0 h0 sv0 lv0 hb0 hc0) (by first | exact .inl rfl | exact .inr rfl) ?_
  simp (config := {decide := true, maxSteps := 1000000}) only [nilQ, nilA, RechL, ReY, isNew, stepO, XPost, postN, XOk, updN, updU, isEff, avalue, aeff, ASt.eval, ASt.put, ASt.set, ASt.new, Nat.reduceDiv, Nat.reduceAdd, Int.reduceToNat, absV, absC, scalar, alen, acap, conc, flats, live, blkOf, aload, rd, part?, afieldAddr, afield, aindexAddr, cellsOf, afill, places, abuild, optI, asliceV, asliceS, szOk, srcCells, aappend, astore, amakeSlice, abuildSlice, snapL, mapO, treeL, AVal.tree, AVal.flatT, isFlat, ares, lookupA, lookupH, tops, if_true, if_false, reduceCtorEq, forall_const, ite_true, ite_false, implies_true, walkS, tabS, Try.results8]
  refine callK (c3) (by first | exact .inl rfl | exact .inr rfl) ?_
  simp (config := {decide := true, maxSteps := 1000000}) only [nilQ, nilA, RechL, ReY, isNew, stepO, XPost, postN, XOk, updN, updU, isEff, avalue, aeff, ASt.eval, ASt.put, ASt.set, ASt.new, Nat.reduceDiv, Nat.reduceAdd, Int.reduceToNat, absV, absC, scalar, alen, acap, conc, flats, live, blkOf, aload, rd, part?, afieldAddr, afield, aindexAddr, cellsOf, afill, places, abuild, optI, asliceV, asliceS, szOk, srcCells, aappend, astore, amakeSlice, abuildSlice, snapL, mapO, treeL, AVal.tree, AVal.flatT, isFlat, ares, lookupA, lookupH, tops, if_true, if_false, reduceCtorEq, forall_const, ite_true, ite_false, implies_true, walkS, tabS, Try.results8]
  refine callK (den_eqInt64S R R) (by first | exact .inl rfl | exact .inr rfl) ?_
  simp (config := {decide := true, maxSteps := 1000000}) only [nilQ, nilA, RechL, ReY, isNew, stepO, XPost, postN, XOk, updN, updU, isEff, avalue, aeff, ASt.eval, ASt.put, ASt.set, ASt.new, Nat.reduceDiv, Nat.reduceAdd, Int.reduceToNat, absV, absC, scalar, alen, acap, conc, flats, live, blkOf, aload, rd, part?, afieldAddr, afield, aindexAddr, cellsOf, afill, places, abuild, optI, asliceV, asliceS, szOk, srcCells, aappend, astore, amakeSlice, abuildSlice, snapL, mapO, treeL, AVal.tree, AVal.flatT, isFlat, ares, lookupA, lookupH, tops, if_true, if_false, reduceCtorEq, forall_const, ite_true, ite_false, implies_true, walkS, tabS, Try.results8, marks_length, marks_take]
  refine callK (den_held 1 R.length (by omega) (by omega) hr) (by first | exact .inl rfl | exact .inr rfl) ?_
  simp (config := {decide := true, maxSteps := 1000000}) only [nilQ, nilA, RechL, ReY, isNew, stepO, XPost, postN, XOk, updN, updU, isEff, avalue, aeff, ASt.eval, ASt.put, ASt.set, ASt.new, Nat.reduceDiv, Nat.reduceAdd, Int.reduceToNat, absV, absC, scalar, alen, acap, conc, flats, live, blkOf, aload, rd, part?, afieldAddr, afield, aindexAddr, cellsOf, afill, places, abuild, optI, asliceV, asliceS, szOk, srcCells, aappend, astore, amakeSlice, abuildSlice, snapL, mapO, treeL, AVal.tree, AVal.flatT, isFlat, ares, lookupA, lookupH, tops, if_true, if_false, reduceCtorEq, forall_const, ite_true, ite_false, implies_true, walkS, tabS, Try.results8, n2]
theorem shape_ras : shapeOf Try.prog 20 24 = some (.struct 5 (.cons 1 (.int .i64) (.cons 1 (.int .i64) (.cons 1 (.int .i64) (.cons 1 (.slice 1 (.int .i64)) (.cons 1 (.slice 1 (.int .i64)) .nil)))))) := by kernel_rfl
theorem shape_int : shapeOf Try.prog 20 2 = some (.int .i64) := by kernel_rfl
set_option maxRecDepth 100000 in
theorem law_lifted (os : Os) (started : os.Started) (H : Type) (enc : TypeId × Value → H) :
    ReturnsInHanded {} Try.checked os 8 .any (Rows.fnExactHistogramOfSpec.pre6 enc Try.prog Try.f8 Rows.fnExactHistogramOfRow.domain false) (Rows.fnExactHistogramOfSpec.post enc Try.prog Try.f8 false true false false) := by
  refine returnsInHanded_of_change (C := Try.checked) ownK started (by kernel_rfl) Try.func8
    (ChangeSpec.witness6 (enc := enc) (C := Try.checked) false ⟨#[], #[.agg #[.int .i64 0, .int .i64 0, .int .i64 0, .slice none 0 0, .slice none 0 0], .int .i64 0, .int .i64 0, .int .i64 0], []⟩ 8 (by kernel_rfl) (by kernel_rfl) (by kernel_rfl) (by kernel_rfl)) ?_
  intro W base args ds gs before hval hW hcnd _
  have e : Try.f8.params.toList = [24, 2, 2, 2] := by kernel_rfl
  refine law_calls (C := Try.prog) (tb := 4) laidOut rfl rfl (by kernel_rfl) ?_ ?_ hval hW ?_
  · intro t ht
    rw [e] at ht
    simp only [List.mem_cons, List.mem_nil_iff, or_false] at ht
    rcases ht with rfl | rfl | rfl | rfl
    · exact ⟨by kernel_rfl, of_decide_eq_true (by kernel_rfl), by rw [shape_ras]; rfl⟩
    · exact ⟨by kernel_rfl, of_decide_eq_true (by kernel_rfl), by rw [shape_int]; rfl⟩
    · exact ⟨by kernel_rfl, of_decide_eq_true (by kernel_rfl), by rw [shape_int]; rfl⟩
    · exact ⟨by kernel_rfl, of_decide_eq_true (by kernel_rfl), by rw [shape_int]; rfl⟩
  · intro ds hds
    match ds, hds with
    | [_d0, _d1, _d2, _d3], _ => exact ⟨rfl, rfl, rfl⟩
  · intro asl has
    rw [e] at has
    obtain ⟨a0, r0, σ0, rfl, hs0, hv0, has1⟩ := has
    rw [shape_ras] at hs0
    simp only [Option.some.injEq] at hs0
    subst hs0
    obtain ⟨s0, w0, h0, sv0, lv0, rfl, hy0⟩ := has_rasV hv0
    obtain ⟨a1, r1, σ1, rfl, hs1, hv1, has2⟩ := has1
    rw [shape_int] at hs1
    simp only [Option.some.injEq] at hs1
    subst hs1
    obtain ⟨n1, rfl, hy1⟩ := has_i64V hv1
    obtain ⟨a2, r2, σ2, rfl, hs2, hv2, has3⟩ := has2
    rw [shape_int] at hs2
    simp only [Option.some.injEq] at hs2
    subst hs2
    obtain ⟨n2, rfl, hy2⟩ := has_i64V hv2
    obtain ⟨a3, r3, σ3, rfl, hs3, hv3, rfl⟩ := has3
    rw [shape_int] at hs3
    simp only [Option.some.injEq] at hs3
    subst hs3
    obtain ⟨n3, rfl, hy3⟩ := has_i64V hv3
    exact den_law s0 w0 h0 sv0 lv0 hy0 n1 hy1 n2 hy2 n3 hy3
theorem law_holds : Rows.FnExactHistogramOfSaid :=
  OpenClaim.holds_of_wide 8 Try.f8 rfl rfl rfl rfl rfl rfl rfl ⟨rfl, rfl, rfl, rfl, rfl⟩ rfl rfl rfl rfl rfl (by kernel_rfl) Try.func8 (by kernel_rfl)
    (of_decide_eq_true (by kernel_rfl)) (by unfold Func.isWrapper; first | (rw [if_pos (by decide +kernel)]; kernel_rfl) | (rw [if_neg (by decide +kernel)]; exact ⟨rfl, rfl⟩))
    (fun os started H enc _ => law_lifted os started H enc)
end Go.Proofs.Ytdbongnhdlbplaa
