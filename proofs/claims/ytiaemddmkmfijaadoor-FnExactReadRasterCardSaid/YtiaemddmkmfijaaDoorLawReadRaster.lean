/-
  For every input the law FnExactReadRaster returns true: no condition.
-/
import Derived.Test.YtiaemddmkmfijaaDoorRrH
import Derived.Test.YtiaemddmkmfijaaDoorOwnV
import Derived.Test.YtiaemddmkmfijaaDoorLawBase
import Derived.Test.YtiaemddmkmfijaaDoorCards
import Derived.Test.YtiaemddmkmfijaaDoorTie
namespace Go.Proofs.YtiaemddmkmfijaaDoor
open Go Go.Own Go.Proofs Go.ChangeShapes Go.WideShapes Go.ChangeAt Go.RowKit
set_option maxHeartbeats 4000000
set_option maxRecDepth 20000
set_option linter.unusedSimpArgs false
set_option linter.unusedVariables false
theorem itoa_inj {a b : Int} (ha : In12 a) (hb : In12 b) (h : Lib.itoa a = Lib.itoa b) : a = b := by
  rw [← (num_of (in12 ha)).2, h, (num_of (in12 hb)).2]
theorem nums_inj {xs ys : List Int} (h1 : xs.length ≤ 64) (h2 : ∀ x ∈ xs, In12 x) (h3 : ys.length ≤ 64) (h4 : ∀ x ∈ ys, In12 x) (h : numsT xs = numsT ys) : xs = ys := by
  rw [← (list_of h1 h2).2, h, (list_of h3 h4).2]
/-- a text is of one raster alone -/
theorem grid_one {s s' : Int} {n m n' m' : Nat} {sv lv sv' lv' : List Int} (ok : OkRas s n m sv lv) (ok' : OkRas s' n' m' sv' lv') (e : gridK wRas s n m sv lv n m = gridK wRas s' n' m' sv' lv' n' m') : s = s' ∧ (n : Int) = n' ∧ (m : Int) = m' ∧ sv = sv' ∧ lv = lv' ∧ true = true := by
  have el := lines_read s n m sv lv
  rw [e, lines_read] at el
  have h1 := List.cons.inj el
  have hh := head_read s n m
  rw [← h1.1, head_read] at hh
  simp only [headF, List.cons.injEq, and_true, true_and] at hh
  obtain ⟨i1, i2, i3⟩ := sized12 ok.1
  obtain ⟨i1', i2', i3'⟩ := sized12 ok'.1
  have e1 := itoa_inj i1' i1 hh.1
  have e2 := itoa_inj i2' i2 hh.2.1
  have e3 := itoa_inj i3' i3 hh.2.2
  have e2' : n' = n := by omega
  have e3' : m' = m := by omega
  subst e1
  subst e2'
  subst e3'
  have er : rowsT sv' lv' n' m' = rowsT sv lv n' m' := List.append_cancel_right h1.2
  have n24 : n' ≤ 24 := by have := ok.1.2.1; omega
  have q1 := ok.2.1
  have q2 := ok.2.2.1
  have q1' := ok'.2.1
  have q2' := ok'.2.2.1
  have em : ((n' * m' : Nat) : Int) = (n' : Int) * m' := Int.natCast_mul n' m'
  have rw' : ∀ k, k < m' → rowL sv' n' k = rowL sv n' k ∧ rowL lv' n' k = rowL lv n' k := fun k hk => by
    have a1 := rowsT_at (A := sv') (B := lv') (n := n') hk
    rw [er, rowsT_at hk] at a1
    have a2 := Option.some.inj a1
    have a3 := row_read sv lv n' k
    rw [a2, row_read] at a3
    simp only [List.cons.injEq, and_true] at a3
    have l1 := rowL_len (A := sv) (n := n') (h := m') (by omega) hk
    have l2 := rowL_len (A := lv) (n := n') (h := m') (by omega) hk
    have l3 := rowL_len (A := sv') (n := n') (h := m') (by omega) hk
    have l4 := rowL_len (A := lv') (n := n') (h := m') (by omega) hk
    exact ⟨nums_inj (by omega) (rowL_in (ras_in12 ok').1) (by omega) (rowL_in (ras_in12 ok).1) a3.1, nums_inj (by omega) (rowL_in (ras_in12 ok').2) (by omega) (rowL_in (ras_in12 ok).2) a3.2⟩
  have tk : ∀ k, k ≤ m' → sv'.take (k * n') = sv.take (k * n') ∧ lv'.take (k * n') = lv.take (k * n') := fun k => by
    induction k with
    | zero => intro _; simp
    | succ k ih =>
      intro hk
      obtain ⟨a, b⟩ := ih (by omega)
      obtain ⟨c, d⟩ := rw' k hk
      rw [← rowL_snoc (A := sv'), ← rowL_snoc (A := lv'), ← rowL_snoc (A := sv), ← rowL_snoc (A := lv), a, b, c, d]
      exact ⟨rfl, rfl⟩
  obtain ⟨t1, t2⟩ := tk m' (Nat.le_refl _)
  rw [Nat.mul_comm m' n'] at t1 t2
  rw [List.take_of_length_le (by omega), List.take_of_length_le (by omega)] at t1
  rw [List.take_of_length_le (by omega), List.take_of_length_le (by omega)] at t2
  exact ⟨rfl, rfl, rfl, t1.symm, t2.symm, rfl⟩
theorem den_core (T : List UInt8) (hT : T.length ≤ 1048576) (s w h : Int) (sv lv : List Int) (bb : Bool) (b1 : sv.length ≤ 576) (b2 : lv.length ≤ 576)
    (c1 : Den Tryd.prog 20 [.t T] (.tup [rasV s w h sv lv, .b bb]))
    (c2 : DenX Tryd.prog 21 [.v (.t T)] [.v (.t T)] (.tup [rasX s w h sv lv, xb bb])) : Den Tryd.prog 5 [.t T] (.b true) := by
  have h0 : DenX Tryd.prog 21 ([AVal.t T].map XT.v) _ _ := c2
  have c3 : Den Tryd.prog 21 [.t T] (.tup [rasV s w h sv lv, .b bb]) := h0.den (by simp only [treeL, AVal.tree, treeL_i, Bool.and_self, Bool.and_true]; try rfl) (by simp only [XT.freeze, freezeL, freezeL_i]; try rfl) (by simp only [treeL, AVal.tree, treeL_i, Bool.and_self, Bool.and_true]; try rfl)
  have hr1 : sv.length ≤ 1000000000000 := by omega
  have hr2 : lv.length ≤ 1000000000000 := by omega
  have hd : Den Tryd.prog 23 [.agg [.i s, .i w, .i h, .lst (mapC AVal.i (marks 1 sv.length)) sv.length, .lst (mapC AVal.i (marks (1 + (sv.length : Int)) lv.length)) lv.length], .i 1] (.i (1 + sv.length + lv.length)) := by
    have := den_heldRaster s w h sv.length lv.length 1 (by omega) (by omega) hr1 hr2
    simpa only [rasV, ints, lstC, marks_length] using this
  have tI : ¬ (1048576 : Int) < (T.length : Int) := by omega
  have n2 : ¬ ((1 : Int) + sv.length + lv.length < 0) := by omega
  refine den_of_awp Tryd.func5 rfl (by kernel_rfl) (Nat.le_of_ble_eq_true rfl) (by simp only [treeL, AVal.tree, treeL_i, treeL_ints, treeL_u8, treeL_append, Bool.and_self, Bool.and_true, Bool.true_and]) (by first | rfl | simp only [treeL, AVal.tree, treeL_i, treeL_ints, treeL_u8, treeL_append, Bool.and_self, Bool.and_true, Bool.true_and]) mixed (by kernel_rfl) fun hl => ?_
  simp only [lensL, lens, lensL_i, lensL_mapC, maxI, and_true, true_and] at hl
  rw [Tryd.ntmps5]
  refine ex_start ?_
  simp (config := { maxSteps := 1000000 }) +decide only [NoH, Old, OldL, nilQ, nilA, asgn, nz, RechL, ReY, isNew, stepO, XPost, postN, XOk, updN, updU, isEff, avalue, aeff, ASt.eval, ASt.put, ASt.set, ASt.new, Nat.reduceDiv, Nat.reduceAdd, Int.reduceToNat, absV, absC, scalar, alen, acap, conc, flats, live, blkOf, aload, rd, part?, afieldAddr, afield, aindexAddr, cellsOf, afill, places, abuild, optI, asliceV, asliceS, szOk, srcCells, aappend, acopy, astore, amakeSlice, abuildSlice, snapL, mapO, treeL, AVal.tree, AVal.flatT, isFlat, ares, isFz, afroz, afrozB, lookupA, lookupH, tops, if_true, if_false, reduceCtorEq, forall_const, ite_true, ite_false, implies_true, walkS, tabS, Tryd.results5, bt_size, eq_false tI]
  refine callK (c1) (by first | exact .inl rfl | exact .inr rfl) ?_
  simp (config := { maxSteps := 1000000 }) +decide only [NoH, Old, OldL, nilQ, nilA, asgn, nz, RechL, ReY, isNew, stepO, XPost, postN, XOk, updN, updU, isEff, avalue, aeff, ASt.eval, ASt.put, ASt.set, ASt.new, Nat.reduceDiv, Nat.reduceAdd, Int.reduceToNat, absV, absC, scalar, alen, acap, conc, flats, live, blkOf, aload, rd, part?, afieldAddr, afield, aindexAddr, cellsOf, afill, places, abuild, optI, asliceV, asliceS, szOk, srcCells, aappend, acopy, astore, amakeSlice, abuildSlice, snapL, mapO, treeL, AVal.tree, AVal.flatT, isFlat, ares, isFz, afroz, afrozB, lookupA, lookupH, tops, if_true, if_false, reduceCtorEq, forall_const, ite_true, ite_false, implies_true, walkS, tabS, Tryd.results5]
  refine callX (c2) (by simp (config := { maxSteps := 1000000 }) +decide only [NoH, Old, OldL, nilQ, nilA, asgn, nz, RechL, ReY, isNew, stepO, XPost, postN, XOk, updN, updU, isEff, avalue, aeff, ASt.eval, ASt.put, ASt.set, ASt.new, Nat.reduceDiv, Nat.reduceAdd, Int.reduceToNat, absV, absC, scalar, alen, acap, conc, flats, live, blkOf, aload, rd, part?, afieldAddr, afield, aindexAddr, cellsOf, afill, places, abuild, optI, asliceV, asliceS, szOk, srcCells, aappend, acopy, astore, amakeSlice, abuildSlice, snapL, mapO, treeL, AVal.tree, AVal.flatT, isFlat, ares, isFz, afroz, afrozB, lookupA, lookupH, tops, if_true, if_false, reduceCtorEq, forall_const, ite_true, ite_false, implies_true, walkS, tabS, Tryd.results5]) ?_
  simp (config := { maxSteps := 1000000 }) +decide only [NoH, Old, OldL, nilQ, nilA, asgn, nz, RechL, ReY, isNew, stepO, XPost, postN, XOk, updN, updU, isEff, avalue, aeff, ASt.eval, ASt.put, ASt.set, ASt.new, Nat.reduceDiv, Nat.reduceAdd, Int.reduceToNat, absV, absC, scalar, alen, acap, conc, flats, live, blkOf, aload, rd, part?, afieldAddr, afield, aindexAddr, cellsOf, afill, places, abuild, optI, asliceV, asliceS, szOk, srcCells, aappend, acopy, astore, amakeSlice, abuildSlice, snapL, mapO, treeL, AVal.tree, AVal.flatT, isFlat, ares, isFz, afroz, afrozB, lookupA, lookupH, tops, if_true, if_false, reduceCtorEq, forall_const, ite_true, ite_false, implies_true, walkS, tabS, Tryd.results5]
  refine callK (den_eqRaster s w h sv lv s w h sv lv) (by first | exact .inl rfl | exact .inr rfl) ?_
  cases bb
  all_goals
    simp (config := { maxSteps := 1000000 }) +decide only [NoH, Old, OldL, nilQ, nilA, asgn, nz, RechL, ReY, isNew, stepO, XPost, postN, XOk, updN, updU, isEff, avalue, aeff, ASt.eval, ASt.put, ASt.set, ASt.new, Nat.reduceDiv, Nat.reduceAdd, Int.reduceToNat, absV, absC, scalar, alen, acap, conc, flats, live, blkOf, aload, rd, part?, afieldAddr, afield, aindexAddr, cellsOf, afill, places, abuild, optI, asliceV, asliceS, szOk, srcCells, aappend, acopy, astore, amakeSlice, abuildSlice, snapL, mapO, treeL, AVal.tree, AVal.flatT, isFlat, ares, isFz, afroz, afrozB, lookupA, lookupH, tops, if_true, if_false, reduceCtorEq, forall_const, ite_true, ite_false, implies_true, walkS, tabS, Tryd.results5]
    refine callX (denx_markRaster s w h sv lv 1 (by omega) (by omega) hr1 hr2) (by simp (config := { maxSteps := 1000000 }) +decide only [NoH, Old, OldL, nilQ, nilA, asgn, nz, RechL, ReY, isNew, stepO, XPost, postN, XOk, updN, updU, isEff, avalue, aeff, ASt.eval, ASt.put, ASt.set, ASt.new, Nat.reduceDiv, Nat.reduceAdd, Int.reduceToNat, absV, absC, scalar, alen, acap, conc, flats, live, blkOf, aload, rd, part?, afieldAddr, afield, aindexAddr, cellsOf, afill, places, abuild, optI, asliceV, asliceS, szOk, srcCells, aappend, acopy, astore, amakeSlice, abuildSlice, snapL, mapO, treeL, AVal.tree, AVal.flatT, isFlat, ares, isFz, afroz, afrozB, lookupA, lookupH, tops, if_true, if_false, reduceCtorEq, forall_const, ite_true, ite_false, implies_true, walkS, tabS, Tryd.results5, marks_length]) ?_
    simp (config := { maxSteps := 1000000 }) +decide only [NoH, Old, OldL, nilQ, nilA, asgn, nz, RechL, ReY, isNew, stepO, XPost, postN, XOk, updN, updU, isEff, avalue, aeff, ASt.eval, ASt.put, ASt.set, ASt.new, Nat.reduceDiv, Nat.reduceAdd, Int.reduceToNat, absV, absC, scalar, alen, acap, conc, flats, live, blkOf, aload, rd, part?, afieldAddr, afield, aindexAddr, cellsOf, afill, places, abuild, optI, asliceV, asliceS, szOk, srcCells, aappend, acopy, astore, amakeSlice, abuildSlice, snapL, mapO, treeL, AVal.tree, AVal.flatT, isFlat, ares, isFz, afroz, afrozB, lookupA, lookupH, tops, if_true, if_false, reduceCtorEq, forall_const, ite_true, ite_false, implies_true, walkS, tabS, Tryd.results5, marks_length, marks_take]
    refine callK (hd) (by first | exact .inl rfl | exact .inr rfl) ?_
    simp (config := { maxSteps := 1000000 }) +decide only [NoH, Old, OldL, nilQ, nilA, asgn, nz, RechL, ReY, isNew, stepO, XPost, postN, XOk, updN, updU, isEff, avalue, aeff, ASt.eval, ASt.put, ASt.set, ASt.new, Nat.reduceDiv, Nat.reduceAdd, Int.reduceToNat, absV, absC, scalar, alen, acap, conc, flats, live, blkOf, aload, rd, part?, afieldAddr, afield, aindexAddr, cellsOf, afill, places, abuild, optI, asliceV, asliceS, szOk, srcCells, aappend, acopy, astore, amakeSlice, abuildSlice, snapL, mapO, treeL, AVal.tree, AVal.flatT, isFlat, ares, isFz, afroz, afrozB, lookupA, lookupH, tops, if_true, if_false, reduceCtorEq, forall_const, ite_true, ite_false, implies_true, walkS, tabS, Tryd.results5, n2]
    refine callK (c3) (by first | exact .inl rfl | exact .inr rfl) ?_
    simp (config := { maxSteps := 1000000 }) +decide only [NoH, Old, OldL, nilQ, nilA, asgn, nz, RechL, ReY, isNew, stepO, XPost, postN, XOk, updN, updU, isEff, avalue, aeff, ASt.eval, ASt.put, ASt.set, ASt.new, Nat.reduceDiv, Nat.reduceAdd, Int.reduceToNat, absV, absC, scalar, alen, acap, conc, flats, live, blkOf, aload, rd, part?, afieldAddr, afield, aindexAddr, cellsOf, afill, places, abuild, optI, asliceV, asliceS, szOk, srcCells, aappend, acopy, astore, amakeSlice, abuildSlice, snapL, mapO, treeL, AVal.tree, AVal.flatT, isFlat, ares, isFz, afroz, afrozB, lookupA, lookupH, tops, if_true, if_false, reduceCtorEq, forall_const, ite_true, ite_false, implies_true, walkS, tabS, Tryd.results5]
    refine callK (den_eqRaster s w h sv lv s w h sv lv) (by first | exact .inl rfl | exact .inr rfl) ?_
    simp (config := { maxSteps := 1000000 }) +decide only [NoH, Old, OldL, nilQ, nilA, asgn, nz, RechL, ReY, isNew, stepO, XPost, postN, XOk, updN, updU, isEff, avalue, aeff, ASt.eval, ASt.put, ASt.set, ASt.new, Nat.reduceDiv, Nat.reduceAdd, Int.reduceToNat, absV, absC, scalar, alen, acap, conc, flats, live, blkOf, aload, rd, part?, afieldAddr, afield, aindexAddr, cellsOf, afill, places, abuild, optI, asliceV, asliceS, szOk, srcCells, aappend, acopy, astore, amakeSlice, abuildSlice, snapL, mapO, treeL, AVal.tree, AVal.flatT, isFlat, ares, isFz, afroz, afrozB, lookupA, lookupH, tops, if_true, if_false, reduceCtorEq, forall_const, ite_true, ite_false, implies_true, walkS, tabS, Tryd.results5, marks_length, marks_take]
    refine callK (hd) (by first | exact .inl rfl | exact .inr rfl) ?_
    simp (config := { maxSteps := 1000000 }) +decide only [NoH, Old, OldL, nilQ, nilA, asgn, nz, RechL, ReY, isNew, stepO, XPost, postN, XOk, updN, updU, isEff, avalue, aeff, ASt.eval, ASt.put, ASt.set, ASt.new, Nat.reduceDiv, Nat.reduceAdd, Int.reduceToNat, absV, absC, scalar, alen, acap, conc, flats, live, blkOf, aload, rd, part?, afieldAddr, afield, aindexAddr, cellsOf, afill, places, abuild, optI, asliceV, asliceS, szOk, srcCells, aappend, acopy, astore, amakeSlice, abuildSlice, snapL, mapO, treeL, AVal.tree, AVal.flatT, isFlat, ares, isFz, afroz, afrozB, lookupA, lookupH, tops, if_true, if_false, reduceCtorEq, forall_const, ite_true, ite_false, implies_true, walkS, tabS, Tryd.results5, n2]
theorem den_law (x : ByteArray) (_ : x.size ≤ maxLen) : Den Tryd.prog 5 [.flat (.string x)] (.b true) := by
  obtain ⟨T, rfl⟩ : ∃ T, x = bt T := ⟨_, (bt_of x).symm⟩
  show Den Tryd.prog 5 [.t T] (.b true)
  by_cases hT : T.length ≤ 1048576
  case neg =>
    have tI : (1048576 : Int) < (T.length : Int) := by omega
    refine den_of_awp Tryd.func5 rfl (by kernel_rfl) (Nat.le_of_ble_eq_true rfl) (by simp only [treeL, AVal.tree, treeL_i, treeL_ints, treeL_u8, treeL_append, Bool.and_self, Bool.and_true, Bool.true_and]) (by first | rfl | simp only [treeL, AVal.tree, treeL_i, treeL_ints, treeL_u8, treeL_append, Bool.and_self, Bool.and_true, Bool.true_and]) mixed (by kernel_rfl) fun hl => ?_
    simp only [lensL, lens, lensL_i, lensL_mapC, maxI, and_true, true_and] at hl
    rw [Tryd.ntmps5]
    refine ex_start ?_
    simp (config := { maxSteps := 1000000 }) +decide only [NoH, Old, OldL, nilQ, nilA, asgn, nz, RechL, ReY, isNew, stepO, XPost, postN, XOk, updN, updU, isEff, avalue, aeff, ASt.eval, ASt.put, ASt.set, ASt.new, Nat.reduceDiv, Nat.reduceAdd, Int.reduceToNat, absV, absC, scalar, alen, acap, conc, flats, live, blkOf, aload, rd, part?, afieldAddr, afield, aindexAddr, cellsOf, afill, places, abuild, optI, asliceV, asliceS, szOk, srcCells, aappend, acopy, astore, amakeSlice, abuildSlice, snapL, mapO, treeL, AVal.tree, AVal.flatT, isFlat, ares, isFz, afroz, afrozB, lookupA, lookupH, tops, if_true, if_false, reduceCtorEq, forall_const, ite_true, ite_false, implies_true, walkS, tabS, Tryd.results5, bt_size, eq_true tI]
  by_cases hn : NoRas T
  · exact den_core T hT 0 0 0 [] [] false (by simp) (by simp)
      (den_specReadRaster T hT 0 0 0 [] [] false (fun s n m sv lv ok e => absurd e (hn s n m sv lv ok)) (fun _ => ⟨rfl, rfl, rfl, rfl, rfl, rfl⟩))
      (denx_ReadRasterNo T hT hn)
  · have ex : ∃ (s : Int) (n m : Nat) (sv lv : List Int), OkRas s n m sv lv ∧ T = gridK wRas s n m sv lv n m := Classical.byContradiction fun k => hn fun s n m sv lv ok e => k ⟨s, n, m, sv, lv, ok, e⟩
    obtain ⟨s, n, m, sv, lv, ok, e⟩ := ex
    have q1 := ok.2.1
    have q2 := ok.2.2.1
    have nm := (size_bound ok.1).2.2
    have c1 := den_specReadRaster T hT s n m sv lv true (fun s' n' m' sv' lv' ok' e' => by
      exact grid_one ok ok' (e.symm.trans e')) (fun h => absurd h hn)
    have c2 := denx_ReadRaster s n m sv lv ok
    rw [← e] at c2
    exact den_core T hT s n m sv lv true (by omega) (by omega) c1 c2
theorem shape_str : shapeOf Tryd.prog 20 9 = some .str := by kernel_rfl
theorem globs_met {W : World} (hsh : W.ShapedOpen Tryd.prog) (h : laidMetH Tryd.prog Rows.fnExactReadRasterRow.laid W) : Globs (tenv W) := by
  rw [MakeChecks.laidMetH_plain _ _ _ (by kernel_rfl)] at h
  obtain ⟨ps, h0, _, _⟩ := h
  obtain ⟨g0, t0, cs0, f0, p0, q0, a0, b0, c0, d0, h1, _⟩ := h0
  obtain ⟨g1, t1, cs1, f1, p1, q1, a1, b1, c1, d1, h2, _⟩ := h1
  obtain ⟨g2, t2, cs2, f2, p2, q2, a2, b2, c2, d2, h3, _⟩ := h2
  obtain ⟨g3, t3, cs3, f3, p3, q3, a3, b3, c3, d3, h4, _⟩ := h3
  obtain ⟨g4, t4, cs4, f4, p4, q4, a4, b4, c4, d4, h5, _⟩ := h4
  obtain ⟨g5, t5, cs5, f5, p5, q5, a5, b5, c5, d5, h6, _⟩ := h5
  obtain ⟨g6, t6, cs6, f6, p6, q6, a6, b6, c6, d6, h7, _⟩ := h6
  intro x hx
  simp only [globPins, GL.tab, GL.ex, GL.shp, List.map_cons, List.map_nil, List.cons_append, List.nil_append, List.append_nil, List.mem_cons, List.not_mem_nil, or_false] at hx
  rcases hx with rfl | rfl | rfl | rfl | rfl | rfl | rfl | rfl | rfl
  · exact tab_rep (k := .u64) (L := tab_uint64pow10) (show Tryd.prog.globalNamed "internal/strconv.uint64pow10" = some 1 by kernel_rfl) (show (Tryd.prog.globals[1]?).map (·.type) = some 156 by kernel_rfl) Tryd.underlying156 Tryd.underlying106 (by kernel_rfl) ⟨g2, t2, cs2, f2, p2, a2, b2, c2, d2⟩
  · exact tab_rep (k := .u8) (L := tab_deBruijn32tab) (show Tryd.prog.globalNamed "math/bits.deBruijn32tab" = some 6 by kernel_rfl) (show (Tryd.prog.globals[6]?).map (·.type) = some 179 by kernel_rfl) Tryd.underlying179 Tryd.underlying5 (by kernel_rfl) ⟨g0, t0, cs0, f0, p0, a0, b0, c0, d0⟩
  · exact tab_rep (k := .u8) (L := tab_deBruijn64tab) (show Tryd.prog.globalNamed "math/bits.deBruijn64tab" = some 7 by kernel_rfl) (show (Tryd.prog.globals[7]?).map (·.type) = some 180 by kernel_rfl) Tryd.underlying180 Tryd.underlying5 (by kernel_rfl) ⟨g1, t1, cs1, f1, p1, a1, b1, c1, d1⟩
  · exact tab_row (k := .u64) (L := tab_uint64pow10) (show Tryd.prog.globalNamed "internal/strconv.uint64pow10" = some 1 by kernel_rfl) (show (Tryd.prog.globals[1]?).map (·.type) = some 156 by kernel_rfl) Tryd.underlying156 Tryd.underlying106 (by kernel_rfl) (by kernel_rfl) ⟨g2, t2, cs2, f2, p2, a2, b2, c2, d2⟩
  · exact tab_row (k := .u8) (L := tab_deBruijn32tab) (show Tryd.prog.globalNamed "math/bits.deBruijn32tab" = some 6 by kernel_rfl) (show (Tryd.prog.globals[6]?).map (·.type) = some 179 by kernel_rfl) Tryd.underlying179 Tryd.underlying5 (by kernel_rfl) (by kernel_rfl) ⟨g0, t0, cs0, f0, p0, a0, b0, c0, d0⟩
  · exact tab_row (k := .u8) (L := tab_deBruijn64tab) (show Tryd.prog.globalNamed "math/bits.deBruijn64tab" = some 7 by kernel_rfl) (show (Tryd.prog.globals[7]?).map (·.type) = some 180 by kernel_rfl) Tryd.underlying180 Tryd.underlying5 (by kernel_rfl) (by kernel_rfl) ⟨g1, t1, cs1, f1, p1, a1, b1, c1, d1⟩
  · exact shp_rep (cell_of_shapedOpen_int (t := 3) (zero := #[.int .i64 0]) hsh (of_decide_eq_true (by kernel_rfl)) (by kernel_rfl) rfl (by kernel_rfl) (by kernel_rfl) Tryd.underlying3)
  · exact err_rep (show Tryd.prog.globalNamed "strconv.ErrSyntax" = some 2 by kernel_rfl) (show (Tryd.prog.globals[2]?).map (·.type) = some 115 by kernel_rfl) Tryd.underlying115 ⟨g5, t5, cs5, f5, p5, a5, b5, c5, d5⟩
  · exact err_rep (show Tryd.prog.globalNamed "strconv.ErrRange" = some 3 by kernel_rfl) (show (Tryd.prog.globals[3]?).map (·.type) = some 115 by kernel_rfl) Tryd.underlying115 ⟨g4, t4, cs4, f4, p4, a4, b4, c4, d4⟩
set_option maxRecDepth 100000 in
theorem law_lifted (os : Os) (started : os.Started) (H : Type) (enc : TypeId × Value → H) :
    ReturnsInHanded {} Tryd.checked os 5 .any (fun w args => (Rows.fnExactReadRasterSpec.pre enc Tryd.prog Tryd.f5 [] false w args ∧ laidMetH Tryd.prog Rows.fnExactReadRasterRow.laid w) ∧ sizedMet enc Tryd.prog Tryd.f5 (OpenSpec.ofChange Rows.fnExactReadRasterSpec) false w args)
      (Rows.fnExactReadRasterSpec.post enc Tryd.prog Tryd.f5 false true false false) := by
  refine handed_shaped (C := Tryd.checked) (X := fun w _ => laidMetH Tryd.prog Rows.fnExactReadRasterRow.laid w) (fun _ _ _ hh h => h.of_heap hh) ownK started (by kernel_rfl) Tryd.func5
    (ChangeSpec.witness_shaped (enc := enc) (C := Tryd.checked) (os := os) (X := fun w _ => laidMetH Tryd.prog Rows.fnExactReadRasterRow.laid w) false (World.laidAll Tryd.prog os Rows.fnExactReadRasterRow.laid) #[.string ByteArray.empty] 8 (World.laidAll_os _ _ _) (World.shaped_of_ZipB (by kernel_rfl) (by kernel_rfl)) (by kernel_rfl) (by kernel_rfl) (by kernel_rfl) (by rw [MakeChecks.laidMetH_plain _ _ _ (by kernel_rfl)]; exact laidMet_laidAll _ (by kernel_rfl) (by kernel_rfl))) ?_
  intro W base args ds gs before hval hW hL hsh
  have e : Tryd.f5.params.toList = [9] := by kernel_rfl
  refine law_callsV (C := Tryd.prog) (tb := 4) laidOut (by kernel_rfl) rfl (by kernel_rfl) ?_ ?_ hval hW (globs_met hsh hL) ?_
  · intro t ht
    rw [e] at ht
    simp only [List.mem_cons, List.mem_nil_iff, or_false] at ht
    subst ht
    exact ⟨by kernel_rfl, of_decide_eq_true (by kernel_rfl), by rw [shape_str]; rfl⟩
  · intro ds gs hds hgs
    match ds, hds, gs, hgs with
    | [_d0], _, [], _ => exact ⟨rfl, rfl, rfl⟩
  · intro asl has
    rw [e] at has
    obtain ⟨a0, r0, σ0, rfl, hs0, hv0, rfl⟩ := has
    rw [shape_str] at hs0
    simp only [Option.some.injEq] at hs0
    subst hs0
    obtain ⟨x0, rfl, hy0⟩ := has_strV hv0
    exact den_law x0 hy0
theorem law_holds : Rows.FnExactReadRasterSaid :=
  OpenClaim.holds_of_wide 5 Tryd.f5 rfl rfl rfl rfl rfl rfl rfl ⟨rfl, rfl, rfl, rfl, rfl⟩ rfl rfl rfl rfl rfl (by kernel_rfl) Tryd.func5 (by kernel_rfl)
    (of_decide_eq_true (by kernel_rfl)) (by unfold Func.isWrapper; first | (rw [if_pos (by decide +kernel)]; kernel_rfl) | (rw [if_neg (by decide +kernel)]; exact ⟨rfl, rfl⟩))
    (fun os started H enc _ => law_lifted os started H enc)
theorem card_holds : Rows.FnExactReadRasterCardSaid :=
  Claim7.holds_tied_plain_at .later [] [.data, .data, .data, .data, .sentinel, .sentinel, .pinned] true (true, "c3be4a87fbdcfa15bb81bf4978a7d61029bf088f44c369984c133d6086347bc5") true
    law_holds (fun _ h => by cases h) (by kernel_rfl) (fun _ h => by cases h) fnExactReadRaster_row_tie rfl ⟨rfl, rfl⟩ (by kernel_rfl) rfl
    (fun f fn hf hfn => by
      obtain rfl : f = 5 := Option.some.inj ((show Tryd.prog.funcNamed "loop.example/g00925/laws.FnExactReadRaster" = some 5 by kernel_rfl).symm.trans hf) |>.symm
      obtain rfl : fn = Tryd.f5 := (Option.some.inj (Tryd.func5.symm.trans hfn)).symm
      refine ⟨by kernel_rfl, fun j t ht => ?_⟩
      have hmem : t ∈ Tryd.f5.params.toList := by
        have := Array.mem_of_getElem? ht
        simpa using this
      rw [show Tryd.f5.params.toList = [9] by kernel_rfl] at hmem
      simp only [List.mem_cons, List.mem_nil_iff, or_false] at hmem
      subst hmem; exact (show Tryd.prog.wantsStandIn 9 = false by kernel_rfl))
    (by kernel_rfl)
end Go.Proofs.YtiaemddmkmfijaaDoor
