/-
  For every input the law FnBearings returns true: the tables read as listed.
-/
import Derived.Test.YtngghngfgpiomaaDoorBrD
import Derived.Test.YtngghngfgpiomaaDoorPtD
import Derived.Test.YtngghngfgpiomaaDoorR8
import Derived.Test.YtngghngfgpiomaaDoorOwnV
import Derived.Test.YtngghngfgpiomaaDoorLawBase
import Derived.Test.YtngghngfgpiomaaDoorCards
import Derived.Test.YtngghngfgpiomaaDoorTie
namespace Go.Proofs.YtngghngfgpiomaaDoor
open Go Go.Own Go.Proofs Go.ChangeShapes Go.WideShapes Go.ChangeAt Go.RowKit
set_option maxHeartbeats 4000000
set_option maxRecDepth 20000
set_option linter.unusedSimpArgs false
theorem dst_le {x y x' y' : Int} (h : OkPt x y) (h' : OkPt x' y') : 0 ≤ dst x y x' y' ∧ dst x y x' y' ≤ 400000 := by
  obtain ⟨⟨a1, a2⟩, a3, a4⟩ := h
  obtain ⟨⟨b1, b2⟩, b3, b4⟩ := h'
  have q1 := @sqb_le (x - x') 200000 (by omega) (by omega)
  have q2 := @sqb_le (y - y') 200000 (by omega) (by omega)
  have q3 := sq_nonneg (x - x')
  have q4 := sq_nonneg (y - y')
  have hr := rt_is (n := (x - x') * (x - x') + (y - y') * (y - y')) (by omega)
  have := rt_lt (k := 400000) hr (by omega)
  unfold dst
  omega
theorem move_near {x y x' y' : Int} (h : OkPt x y) (h' : OkPt x' y') : dst (mvX x (brg (x' - x) (y' - y)) (dst x y x' y')) (mvY y (brg (x' - x) (y' - y)) (dst x y x' y')) x' y' ≤ dst x y x' y' / 100 + 3 := by
  have hd := dst_le h h'
  have q3 := sq_nonneg (x - x')
  have q4 := sq_nonneg (y - y')
  have hr := rt_is (n := (x - x') * (x - x') + (y - y') * (y - y')) (by omega)
  have hD : dst x y x' y' = rt ((x - x') * (x - x') + (y - y') * (y - y')) := rfl
  have e1 := sq_flip x x'
  have e2 := sq_flip y y'
  have hlt := brg_lt (x' - x) (y' - y)
  have g1 : eX (brg (x' - x) (y' - y)) = sn (brg (x' - x) (y' - y)) := by
    rw [← eX_dg]
    congr 1
    unfold dg
    omega
  have g2 : eY (brg (x' - x) (y' - y)) = cs8 (brg (x' - x) (y' - y)) := by
    rw [← eY_dg]
    congr 1
    unfold dg
    omega
  unfold isRt at hr
  rw [← hD] at hr
  have d1 : IsDr 1000000 (dst x y x' y' * eX (brg (x' - x) (y' - y))) (drV (dst x y x' y' * sn (brg (x' - x) (y' - y))) 1000000) := by rw [g1]; exact drV_is (by omega)
  have d2 : IsDr 1000000 (dst x y x' y' * eY (brg (x' - x) (y' - y))) (drV (dst x y x' y' * cs8 (brg (x' - x) (y' - y))) 1000000) := by rw [g2]; exact drV_is (by omega)
  have hx : mvX x (brg (x' - x) (y' - y)) (dst x y x' y') - x' = drV (dst x y x' y' * sn (brg (x' - x) (y' - y))) 1000000 - (x' - x) := by unfold mvX; omega
  have hy : mvY y (brg (x' - x) (y' - y)) (dst x y x' y') - y' = drV (dst x y x' y' * cs8 (brg (x' - x) (y' - y))) 1000000 - (y' - y) := by unfold mvY; omega
  refine move_law (u1 := x' - x) (u2 := y' - y) hd.1 ?_ ?_ d1 d2 (R := dst (mvX x (brg (x' - x) (y' - y)) (dst x y x' y')) (mvY y (brg (x' - x) (y' - y)) (dst x y x' y')) x' y') (by unfold dst; omega) ?_
  · rw [e1, e2]
    exact hr.1
  · rw [e1, e2]
    exact hr.2
  · unfold dst
    rw [← hD, hx, hy]
    exact (rt_is (by
      have q5 := sq_nonneg (drV (dst x y x' y' * sn (brg (x' - x) (y' - y))) 1000000 - (x' - x))
      have q6 := sq_nonneg (drV (dst x y x' y' * cs8 (brg (x' - x) (y' - y))) 1000000 - (y' - y))
      omega)).1
theorem one_sq (d : Int) : abs8 (sn d * sn d + cs8 d * cs8 d - 1000000000000) < 3000000 := by
  have h := (one_of (dg_lt d)).nrm
  rw [eX_dg, eY_dg] at h
  obtain ⟨_, _, h3, h4⟩ := h
  unfold abs8
  split <;> omega
theorem law_turn {x y x' y' : Int} (hn : ¬ (x = x' ∧ y = y')) : ¬ trn (brg (x' - x) (y' - y)) (brg (x - x') (y - y')) < 179 := by
  have h := brg_opp (u1 := x' - x) (u2 := y' - y) (by omega)
  rw [show -(x' - x) = x - x' by omega, show -(y' - y) = y - y' by omega] at h
  omega
theorem den_law (bs : List Int) (hb0 : ∀ x ∈ bs, 0 ≤ x ∧ x ≤ 255) (ms : List Int) (hm0 : ∀ x ∈ ms, 0 ≤ x ∧ x ≤ 255) : Den Tryd.prog 3 [bytesV bs, bytesV ms] (.b true) := by
  refine den_of_awpG (ghs [] []) Tryd.func3 rfl (by kernel_rfl) (Nat.le_of_ble_eq_true rfl) (by simp only [treeL, AVal.tree, treeL_i, treeL_ints, treeL_u8, treeL_append, Bool.and_self, Bool.and_true, Bool.true_and, mvP_tree]) (by first | rfl | simp only [treeL, AVal.tree, treeL_i, treeL_ints, treeL_u8, treeL_append, Bool.and_self, Bool.and_true, Bool.true_and, mvP_tree]) mixed (by kernel_rfl) fun hl => ?_
  simp only [lensL, lens, lensL_i, lensL_mapC, maxI, and_true, true_and] at hl
  rw [Tryd.ntmps3]
  refine ex_start ?_
  simp (config := { maxSteps := 1000000 }) +decide only [NoH, Old, OldL, nilQ, nilA, RechL, ReY, isNew, stepO, XPost, postN, XOk, updN, updU, isEff, avalue, aeff, ASt.eval, ASt.put, ASt.set, ASt.new, Nat.reduceDiv, Nat.reduceAdd, Int.reduceToNat, absV, absC, scalar, alen, acap, conc, flats, live, blkOf, aload, rd, part?, afieldAddr, afield, aindexAddr, cellsOf, afill, places, abuild, optI, asliceV, asliceS, szOk, srcCells, aappend, astore, amakeSlice, abuildSlice, snapL, mapO, treeL, AVal.tree, AVal.flatT, isFlat, ares, isFz, afroz, afrozB, lookupA, lookupH, tops, if_true, if_false, reduceCtorEq, forall_const, ite_true, ite_false, implies_true, walkS, tabS, Tryd.results3]
  refine callK (den_r8Long bs ms) (by first | exact .inl rfl | exact .inr rfl) ?_
  by_cases lb : 1048576 < bs.length ∨ 1048576 < ms.length
  · simp (config := { maxSteps := 1000000 }) +decide only [NoH, Old, OldL, nilQ, nilA, RechL, ReY, isNew, stepO, XPost, postN, XOk, updN, updU, isEff, avalue, aeff, ASt.eval, ASt.put, ASt.set, ASt.new, Nat.reduceDiv, Nat.reduceAdd, Int.reduceToNat, absV, absC, scalar, alen, acap, conc, flats, live, blkOf, aload, rd, part?, afieldAddr, afield, aindexAddr, cellsOf, afill, places, abuild, optI, asliceV, asliceS, szOk, srcCells, aappend, astore, amakeSlice, abuildSlice, snapL, mapO, treeL, AVal.tree, AVal.flatT, isFlat, ares, isFz, afroz, afrozB, lookupA, lookupH, tops, if_true, if_false, reduceCtorEq, forall_const, ite_true, ite_false, implies_true, walkS, tabS, Tryd.results3, eq_true lb]
  simp (config := { maxSteps := 1000000 }) +decide only [NoH, Old, OldL, nilQ, nilA, RechL, ReY, isNew, stepO, XPost, postN, XOk, updN, updU, isEff, avalue, aeff, ASt.eval, ASt.put, ASt.set, ASt.new, Nat.reduceDiv, Nat.reduceAdd, Int.reduceToNat, absV, absC, scalar, alen, acap, conc, flats, live, blkOf, aload, rd, part?, afieldAddr, afield, aindexAddr, cellsOf, afill, places, abuild, optI, asliceV, asliceS, szOk, srcCells, aappend, astore, amakeSlice, abuildSlice, snapL, mapO, treeL, AVal.tree, AVal.flatT, isFlat, ares, isFz, afroz, afrozB, lookupA, lookupH, tops, if_true, if_false, reduceCtorEq, forall_const, ite_true, ite_false, implies_true, walkS, tabS, Tryd.results3, eq_false lb]
  have hb := byt8 hb0 (fun h => lb (.inl h))
  have hm := byt8 hm0 (fun h => lb (.inr h))
  refine callX (denx_R8Points hb) (by simp (config := { maxSteps := 1000000 }) +decide only [NoH, Old, OldL, nilQ, nilA, RechL, ReY, isNew, stepO, XPost, postN, XOk, updN, updU, isEff, avalue, aeff, ASt.eval, ASt.put, ASt.set, ASt.new, Nat.reduceDiv, Nat.reduceAdd, Int.reduceToNat, absV, absC, scalar, alen, acap, conc, flats, live, blkOf, aload, rd, part?, afieldAddr, afield, aindexAddr, cellsOf, afill, places, abuild, optI, asliceV, asliceS, szOk, srcCells, aappend, astore, amakeSlice, abuildSlice, snapL, mapO, treeL, AVal.tree, AVal.flatT, isFlat, ares, isFz, afroz, afrozB, lookupA, lookupH, tops, if_true, if_false, reduceCtorEq, forall_const, ite_true, ite_false, implies_true, walkS, tabS, Tryd.results3]) ?_
  have h := (p3_in hb (0, 0)).1
  have h' := (p3_in hb (p3S0 bs)).1
  generalize p3X bs (0, 0) = x at h ⊢
  generalize p3Y bs (0, 0) = y at h ⊢
  generalize p3X bs (p3S0 bs) = x' at h' ⊢
  generalize p3Y bs (p3S0 bs) = y' at h' ⊢
  generalize p3X bs (p3S1 bs) = x2
  generalize p3Y bs (p3S1 bs) = y2
  have hlt := brg_lt (x' - x) (y' - y)
  have hd := dst_le h h'
  have hmv := @move_near x y x' y' h h'
  have hq : (dst x y x' y').tdiv 100 = dst x y x' y' / 100 := Int.tdiv_eq_ediv_of_nonneg hd.1
  have ltn := @law_turn x y x' y'
  have hself := trn_self (brg (x' - x) (y' - y))
  simp (config := { maxSteps := 1000000 }) +decide only [NoH, Old, OldL, nilQ, nilA, RechL, ReY, isNew, stepO, XPost, postN, XOk, updN, updU, isEff, avalue, aeff, ASt.eval, ASt.put, ASt.set, ASt.new, Nat.reduceDiv, Nat.reduceAdd, Int.reduceToNat, absV, absC, scalar, alen, acap, conc, flats, live, blkOf, aload, rd, part?, afieldAddr, afield, aindexAddr, cellsOf, afill, places, abuild, optI, asliceV, asliceS, szOk, srcCells, aappend, astore, amakeSlice, abuildSlice, snapL, mapO, treeL, AVal.tree, AVal.flatT, isFlat, ares, isFz, afroz, afrozB, lookupA, lookupH, tops, if_true, if_false, reduceCtorEq, forall_const, ite_true, ite_false, implies_true, walkS, tabS, Tryd.results3]
  refine callK (den_Bearing x y x' y' h h') (by first | exact .inl rfl | exact .inr rfl) ?_
  simp (config := { maxSteps := 1000000 }) +decide only [NoH, Old, OldL, nilQ, nilA, RechL, ReY, isNew, stepO, XPost, postN, XOk, updN, updU, isEff, avalue, aeff, ASt.eval, ASt.put, ASt.set, ASt.new, Nat.reduceDiv, Nat.reduceAdd, Int.reduceToNat, absV, absC, scalar, alen, acap, conc, flats, live, blkOf, aload, rd, part?, afieldAddr, afield, aindexAddr, cellsOf, afill, places, abuild, optI, asliceV, asliceS, szOk, srcCells, aappend, astore, amakeSlice, abuildSlice, snapL, mapO, treeL, AVal.tree, AVal.flatT, isFlat, ares, isFz, afroz, afrozB, lookupA, lookupH, tops, if_true, if_false, reduceCtorEq, forall_const, ite_true, ite_false, implies_true, walkS, tabS, Tryd.results3]
  refine callK (den_Bearing x' y' x y h' h) (by first | exact .inl rfl | exact .inr rfl) ?_
  simp (config := { maxSteps := 1000000 }) +decide only [NoH, Old, OldL, nilQ, nilA, RechL, ReY, isNew, stepO, XPost, postN, XOk, updN, updU, isEff, avalue, aeff, ASt.eval, ASt.put, ASt.set, ASt.new, Nat.reduceDiv, Nat.reduceAdd, Int.reduceToNat, absV, absC, scalar, alen, acap, conc, flats, live, blkOf, aload, rd, part?, afieldAddr, afield, aindexAddr, cellsOf, afill, places, abuild, optI, asliceV, asliceS, szOk, srcCells, aappend, astore, amakeSlice, abuildSlice, snapL, mapO, treeL, AVal.tree, AVal.flatT, isFlat, ares, isFz, afroz, afrozB, lookupA, lookupH, tops, if_true, if_false, reduceCtorEq, forall_const, ite_true, ite_false, implies_true, walkS, tabS, Tryd.results3]
  refine callK (den_specDistance x y x' y' h h') (by first | exact .inl rfl | exact .inr rfl) ?_
  generalize haz : brg (x' - x) (y' - y) = az at hlt hmv ltn hself ⊢
  have z1 : ¬ (az : Int) < 0 := by omega
  have z2 : ¬ (359 : Int) < (az : Int) := by omega
  by_cases hn : x = x' ∧ y = y'
  case' pos =>
    have e1 : (x == x' && y == y') = true := by simp [hn]
    simp (config := { maxSteps := 1000000 }) +decide only [NoH, Old, OldL, nilQ, nilA, RechL, ReY, isNew, stepO, XPost, postN, XOk, updN, updU, isEff, avalue, aeff, ASt.eval, ASt.put, ASt.set, ASt.new, Nat.reduceDiv, Nat.reduceAdd, Int.reduceToNat, absV, absC, scalar, alen, acap, conc, flats, live, blkOf, aload, rd, part?, afieldAddr, afield, aindexAddr, cellsOf, afill, places, abuild, optI, asliceV, asliceS, szOk, srcCells, aappend, astore, amakeSlice, abuildSlice, snapL, mapO, treeL, AVal.tree, AVal.flatT, isFlat, ares, isFz, afroz, afrozB, lookupA, lookupH, tops, if_true, if_false, reduceCtorEq, forall_const, ite_true, ite_false, implies_true, walkS, tabS, Tryd.results3, eq_false z1, eq_false z2, sem_ptNeq, e1]
  case' neg =>
    have e1 : (x == x' && y == y') = false := by simpa using hn
    have z3 := ltn hn
    simp (config := { maxSteps := 1000000 }) +decide only [NoH, Old, OldL, nilQ, nilA, RechL, ReY, isNew, stepO, XPost, postN, XOk, updN, updU, isEff, avalue, aeff, ASt.eval, ASt.put, ASt.set, ASt.new, Nat.reduceDiv, Nat.reduceAdd, Int.reduceToNat, absV, absC, scalar, alen, acap, conc, flats, live, blkOf, aload, rd, part?, afieldAddr, afield, aindexAddr, cellsOf, afill, places, abuild, optI, asliceV, asliceS, szOk, srcCells, aappend, astore, amakeSlice, abuildSlice, snapL, mapO, treeL, AVal.tree, AVal.flatT, isFlat, ares, isFz, afroz, afrozB, lookupA, lookupH, tops, if_true, if_false, reduceCtorEq, forall_const, ite_true, ite_false, implies_true, walkS, tabS, Tryd.results3, eq_false z1, eq_false z2, sem_ptNeq, e1]
    refine callK (den_Turn _ _) (by first | exact .inl rfl | exact .inr rfl) ?_
    simp (config := { maxSteps := 1000000 }) +decide only [NoH, Old, OldL, nilQ, nilA, RechL, ReY, isNew, stepO, XPost, postN, XOk, updN, updU, isEff, avalue, aeff, ASt.eval, ASt.put, ASt.set, ASt.new, Nat.reduceDiv, Nat.reduceAdd, Int.reduceToNat, absV, absC, scalar, alen, acap, conc, flats, live, blkOf, aload, rd, part?, afieldAddr, afield, aindexAddr, cellsOf, afill, places, abuild, optI, asliceV, asliceS, szOk, srcCells, aappend, astore, amakeSlice, abuildSlice, snapL, mapO, treeL, AVal.tree, AVal.flatT, isFlat, ares, isFz, afroz, afrozB, lookupA, lookupH, tops, if_true, if_false, reduceCtorEq, forall_const, ite_true, ite_false, implies_true, walkS, tabS, Tryd.results3, eq_false z3]
  all_goals
    refine callK (den_Move x y az (dst x y x' y') h hd.1 hd.2) (by first | exact .inl rfl | exact .inr rfl) ?_
    by_cases hv : OkPt (mvX x az (dst x y x' y')) (mvY y az (dst x y x' y'))
    case' pos =>
      have e : mvP x y az (dst x y x' y') = .tup [.agg [.i (mvX x az (dst x y x' y')), .i (mvY y az (dst x y x' y'))], .i 0] := if_pos hv
      have w1 : IntKind.i64.wrap (dst x y x' y' / 100) = dst x y x' y' / 100 := wrap64 (by omega) (by omega)
      have w2 : IntKind.i64.wrap (dst x y x' y' / 100 + 3) = dst x y x' y' / 100 + 3 := wrap64 (by omega) (by omega)
      rw [e]
      simp (config := { maxSteps := 1000000 }) +decide only [NoH, Old, OldL, nilQ, nilA, RechL, ReY, isNew, stepO, XPost, postN, XOk, updN, updU, isEff, avalue, aeff, ASt.eval, ASt.put, ASt.set, ASt.new, Nat.reduceDiv, Nat.reduceAdd, Int.reduceToNat, absV, absC, scalar, alen, acap, conc, flats, live, blkOf, aload, rd, part?, afieldAddr, afield, aindexAddr, cellsOf, afill, places, abuild, optI, asliceV, asliceS, szOk, srcCells, aappend, astore, amakeSlice, abuildSlice, snapL, mapO, treeL, AVal.tree, AVal.flatT, isFlat, ares, isFz, afroz, afrozB, lookupA, lookupH, tops, if_true, if_false, reduceCtorEq, forall_const, ite_true, ite_false, implies_true, walkS, tabS, Tryd.results3]
      refine callK (den_specDistance (mvX x az (dst x y x' y')) (mvY y az (dst x y x' y')) x' y' hv h') (by first | exact .inl rfl | exact .inr rfl) ?_
      have z4 : ¬ dst x y x' y' / 100 + 3 < dst (mvX x az (dst x y x' y')) (mvY y az (dst x y x' y')) x' y' := by omega
      simp (config := { maxSteps := 1000000 }) +decide only [NoH, Old, OldL, nilQ, nilA, RechL, ReY, isNew, stepO, XPost, postN, XOk, updN, updU, isEff, avalue, aeff, ASt.eval, ASt.put, ASt.set, ASt.new, Nat.reduceDiv, Nat.reduceAdd, Int.reduceToNat, absV, absC, scalar, alen, acap, conc, flats, live, blkOf, aload, rd, part?, afieldAddr, afield, aindexAddr, cellsOf, afill, places, abuild, optI, asliceV, asliceS, szOk, srcCells, aappend, astore, amakeSlice, abuildSlice, snapL, mapO, treeL, AVal.tree, AVal.flatT, isFlat, ares, isFz, afroz, afrozB, lookupA, lookupH, tops, if_true, if_false, reduceCtorEq, forall_const, ite_true, ite_false, implies_true, walkS, tabS, Tryd.results3, sem_quo, hq, w1, w2, eq_false z4]
    case' neg =>
      have e : mvP x y az (dst x y x' y') = .tup [.agg [.i 0, .i 0], .i 6] := if_neg hv
      rw [e]
      simp (config := { maxSteps := 1000000 }) +decide only [NoH, Old, OldL, nilQ, nilA, RechL, ReY, isNew, stepO, XPost, postN, XOk, updN, updU, isEff, avalue, aeff, ASt.eval, ASt.put, ASt.set, ASt.new, Nat.reduceDiv, Nat.reduceAdd, Int.reduceToNat, absV, absC, scalar, alen, acap, conc, flats, live, blkOf, aload, rd, part?, afieldAddr, afield, aindexAddr, cellsOf, afill, places, abuild, optI, asliceV, asliceS, szOk, srcCells, aappend, astore, amakeSlice, abuildSlice, snapL, mapO, treeL, AVal.tree, AVal.flatT, isFlat, ares, isFz, afroz, afrozB, lookupA, lookupH, tops, if_true, if_false, reduceCtorEq, forall_const, ite_true, ite_false, implies_true, walkS, tabS, Tryd.results3]
  all_goals
    refine callK (den_r8Wide hm 0 720 (by omega) (by omega)) (by first | exact .inl rfl | exact .inr rfl) ?_
    have u0 := r8W_in hm 0 720 (by omega)
    generalize r8W ms 0 720 = u at u0 ⊢
    have wu : IntKind.i64.wrap (u - 360) = u - 360 := wrap64 (by omega) (by omega)
    simp (config := { maxSteps := 1000000 }) +decide only [NoH, Old, OldL, nilQ, nilA, RechL, ReY, isNew, stepO, XPost, postN, XOk, updN, updU, isEff, avalue, aeff, ASt.eval, ASt.put, ASt.set, ASt.new, Nat.reduceDiv, Nat.reduceAdd, Int.reduceToNat, absV, absC, scalar, alen, acap, conc, flats, live, blkOf, aload, rd, part?, afieldAddr, afield, aindexAddr, cellsOf, afill, places, abuild, optI, asliceV, asliceS, szOk, srcCells, aappend, astore, amakeSlice, abuildSlice, snapL, mapO, treeL, AVal.tree, AVal.flatT, isFlat, ares, isFz, afroz, afrozB, lookupA, lookupH, tops, if_true, if_false, reduceCtorEq, forall_const, ite_true, ite_false, implies_true, walkS, tabS, Tryd.results3, wu]
    refine callK (den_r8Wide hm 2 720 (by omega) (by omega)) (by first | exact .inl rfl | exact .inr rfl) ?_
    have v0 := r8W_in hm 2 720 (by omega)
    generalize r8W ms 2 720 = v at v0 ⊢
    have wv : IntKind.i64.wrap (v - 360) = v - 360 := wrap64 (by omega) (by omega)
    have wu2 : IntKind.i64.wrap (u - 360 + 360) = u - 360 + 360 := wrap64 (by omega) (by omega)
    have wu3 : IntKind.i64.wrap (u - 360 + 180) = u - 360 + 180 := wrap64 (by omega) (by omega)
    have t1 := trn_in (u - 360) (v - 360)
    have t2 := trn_comm (v - 360) (u - 360)
    have t3 := trn_add (a := u - 360) (b := v - 360) (by omega) (by omega)
    have s1 := sn_in (u - 360)
    have s2 : -1000000 ≤ cs8 (u - 360) ∧ cs8 (u - 360) ≤ 1000000 := sn_in (u - 360 + 90)
    have s3 := sn_half (u - 360)
    have s4 := one_sq (u - 360)
    have s5 := sqb_le s1.1 s1.2
    have s6 := sqb_le s2.1 s2.2
    have s7 := sq_nonneg (sn (u - 360))
    have s8 := sq_nonneg (cs8 (u - 360))
    have x1 : ¬ 1000000 < abs8 (sn (u - 360)) := by unfold abs8; split <;> omega
    have x2 : ¬ 1000000 < abs8 (cs8 (u - 360)) := by unfold abs8; split <;> omega
    have x3 : ¬ trn (u - 360) (v - 360) < 0 := by omega
    have x4 : ¬ 180 < trn (u - 360) (v - 360) := by omega
    have w3 : IntKind.i64.wrap (sn (u - 360) * sn (u - 360)) = sn (u - 360) * sn (u - 360) := wrap64 (by omega) (by omega)
    have w4 : IntKind.i64.wrap (cs8 (u - 360) * cs8 (u - 360)) = cs8 (u - 360) * cs8 (u - 360) := wrap64 (by omega) (by omega)
    have w5 : IntKind.i64.wrap (sn (u - 360) * sn (u - 360) + cs8 (u - 360) * cs8 (u - 360)) = sn (u - 360) * sn (u - 360) + cs8 (u - 360) * cs8 (u - 360) := wrap64 (by omega) (by omega)
    have w6 : IntKind.i64.wrap (sn (u - 360) * sn (u - 360) + cs8 (u - 360) * cs8 (u - 360) - 1000000000000) = sn (u - 360) * sn (u - 360) + cs8 (u - 360) * cs8 (u - 360) - 1000000000000 := wrap64 (by omega) (by omega)
    have w7 : IntKind.i64.wrap (0 - sn (u - 360)) = -sn (u - 360) := (wrap64 (by omega) (by omega)).trans (by omega)
    have tin := trn_in az az
    simp (config := { maxSteps := 1000000 }) +decide only [NoH, Old, OldL, nilQ, nilA, RechL, ReY, isNew, stepO, XPost, postN, XOk, updN, updU, isEff, avalue, aeff, ASt.eval, ASt.put, ASt.set, ASt.new, Nat.reduceDiv, Nat.reduceAdd, Int.reduceToNat, absV, absC, scalar, alen, acap, conc, flats, live, blkOf, aload, rd, part?, afieldAddr, afield, aindexAddr, cellsOf, afill, places, abuild, optI, asliceV, asliceS, szOk, srcCells, aappend, astore, amakeSlice, abuildSlice, snapL, mapO, treeL, AVal.tree, AVal.flatT, isFlat, ares, isFz, afroz, afrozB, lookupA, lookupH, tops, if_true, if_false, reduceCtorEq, forall_const, ite_true, ite_false, implies_true, walkS, tabS, Tryd.results3, wv]
    refine callK (den_Turn (u - 360) (v - 360)) (by first | exact .inl rfl | exact .inr rfl) ?_
    simp (config := { maxSteps := 1000000 }) +decide only [NoH, Old, OldL, nilQ, nilA, RechL, ReY, isNew, stepO, XPost, postN, XOk, updN, updU, isEff, avalue, aeff, ASt.eval, ASt.put, ASt.set, ASt.new, Nat.reduceDiv, Nat.reduceAdd, Int.reduceToNat, absV, absC, scalar, alen, acap, conc, flats, live, blkOf, aload, rd, part?, afieldAddr, afield, aindexAddr, cellsOf, afill, places, abuild, optI, asliceV, asliceS, szOk, srcCells, aappend, astore, amakeSlice, abuildSlice, snapL, mapO, treeL, AVal.tree, AVal.flatT, isFlat, ares, isFz, afroz, afrozB, lookupA, lookupH, tops, if_true, if_false, reduceCtorEq, forall_const, ite_true, ite_false, implies_true, walkS, tabS, Tryd.results3]
    refine callK (den_sine (u - 360)) (by first | exact .inl rfl | exact .inr rfl) ?_
    simp (config := { maxSteps := 1000000 }) +decide only [NoH, Old, OldL, nilQ, nilA, RechL, ReY, isNew, stepO, XPost, postN, XOk, updN, updU, isEff, avalue, aeff, ASt.eval, ASt.put, ASt.set, ASt.new, Nat.reduceDiv, Nat.reduceAdd, Int.reduceToNat, absV, absC, scalar, alen, acap, conc, flats, live, blkOf, aload, rd, part?, afieldAddr, afield, aindexAddr, cellsOf, afill, places, abuild, optI, asliceV, asliceS, szOk, srcCells, aappend, astore, amakeSlice, abuildSlice, snapL, mapO, treeL, AVal.tree, AVal.flatT, isFlat, ares, isFz, afroz, afrozB, lookupA, lookupH, tops, if_true, if_false, reduceCtorEq, forall_const, ite_true, ite_false, implies_true, walkS, tabS, Tryd.results3]
    refine callK (den_cosine (u - 360)) (by first | exact .inl rfl | exact .inr rfl) ?_
    simp (config := { maxSteps := 1000000 }) +decide only [NoH, Old, OldL, nilQ, nilA, RechL, ReY, isNew, stepO, XPost, postN, XOk, updN, updU, isEff, avalue, aeff, ASt.eval, ASt.put, ASt.set, ASt.new, Nat.reduceDiv, Nat.reduceAdd, Int.reduceToNat, absV, absC, scalar, alen, acap, conc, flats, live, blkOf, aload, rd, part?, afieldAddr, afield, aindexAddr, cellsOf, afill, places, abuild, optI, asliceV, asliceS, szOk, srcCells, aappend, astore, amakeSlice, abuildSlice, snapL, mapO, treeL, AVal.tree, AVal.flatT, isFlat, ares, isFz, afroz, afrozB, lookupA, lookupH, tops, if_true, if_false, reduceCtorEq, forall_const, ite_true, ite_false, implies_true, walkS, tabS, Tryd.results3, eq_false x3, eq_false x4]
    refine callK (den_Turn (v - 360) (u - 360)) (by first | exact .inl rfl | exact .inr rfl) ?_
    simp (config := { maxSteps := 1000000 }) +decide only [NoH, Old, OldL, nilQ, nilA, RechL, ReY, isNew, stepO, XPost, postN, XOk, updN, updU, isEff, avalue, aeff, ASt.eval, ASt.put, ASt.set, ASt.new, Nat.reduceDiv, Nat.reduceAdd, Int.reduceToNat, absV, absC, scalar, alen, acap, conc, flats, live, blkOf, aload, rd, part?, afieldAddr, afield, aindexAddr, cellsOf, afill, places, abuild, optI, asliceV, asliceS, szOk, srcCells, aappend, astore, amakeSlice, abuildSlice, snapL, mapO, treeL, AVal.tree, AVal.flatT, isFlat, ares, isFz, afroz, afrozB, lookupA, lookupH, tops, if_true, if_false, reduceCtorEq, forall_const, ite_true, ite_false, implies_true, walkS, tabS, Tryd.results3, t2, wu2]
    refine callK (den_Turn (u - 360 + 360) (v - 360)) (by first | exact .inl rfl | exact .inr rfl) ?_
    simp (config := { maxSteps := 1000000 }) +decide only [NoH, Old, OldL, nilQ, nilA, RechL, ReY, isNew, stepO, XPost, postN, XOk, updN, updU, isEff, avalue, aeff, ASt.eval, ASt.put, ASt.set, ASt.new, Nat.reduceDiv, Nat.reduceAdd, Int.reduceToNat, absV, absC, scalar, alen, acap, conc, flats, live, blkOf, aload, rd, part?, afieldAddr, afield, aindexAddr, cellsOf, afill, places, abuild, optI, asliceV, asliceS, szOk, srcCells, aappend, astore, amakeSlice, abuildSlice, snapL, mapO, treeL, AVal.tree, AVal.flatT, isFlat, ares, isFz, afroz, afrozB, lookupA, lookupH, tops, if_true, if_false, reduceCtorEq, forall_const, ite_true, ite_false, implies_true, walkS, tabS, Tryd.results3, t3]
    refine callK (den_r8Abs (sn (u - 360)) (by omega) (by omega)) (by first | exact .inl rfl | exact .inr rfl) ?_
    simp (config := { maxSteps := 1000000 }) +decide only [NoH, Old, OldL, nilQ, nilA, RechL, ReY, isNew, stepO, XPost, postN, XOk, updN, updU, isEff, avalue, aeff, ASt.eval, ASt.put, ASt.set, ASt.new, Nat.reduceDiv, Nat.reduceAdd, Int.reduceToNat, absV, absC, scalar, alen, acap, conc, flats, live, blkOf, aload, rd, part?, afieldAddr, afield, aindexAddr, cellsOf, afill, places, abuild, optI, asliceV, asliceS, szOk, srcCells, aappend, astore, amakeSlice, abuildSlice, snapL, mapO, treeL, AVal.tree, AVal.flatT, isFlat, ares, isFz, afroz, afrozB, lookupA, lookupH, tops, if_true, if_false, reduceCtorEq, forall_const, ite_true, ite_false, implies_true, walkS, tabS, Tryd.results3, eq_false x1]
    refine callK (den_r8Abs (cs8 (u - 360)) (by omega) (by omega)) (by first | exact .inl rfl | exact .inr rfl) ?_
    simp (config := { maxSteps := 1000000 }) +decide only [NoH, Old, OldL, nilQ, nilA, RechL, ReY, isNew, stepO, XPost, postN, XOk, updN, updU, isEff, avalue, aeff, ASt.eval, ASt.put, ASt.set, ASt.new, Nat.reduceDiv, Nat.reduceAdd, Int.reduceToNat, absV, absC, scalar, alen, acap, conc, flats, live, blkOf, aload, rd, part?, afieldAddr, afield, aindexAddr, cellsOf, afill, places, abuild, optI, asliceV, asliceS, szOk, srcCells, aappend, astore, amakeSlice, abuildSlice, snapL, mapO, treeL, AVal.tree, AVal.flatT, isFlat, ares, isFz, afroz, afrozB, lookupA, lookupH, tops, if_true, if_false, reduceCtorEq, forall_const, ite_true, ite_false, implies_true, walkS, tabS, Tryd.results3, eq_false x2, w3, w4, w5, w6]
    refine callK (den_r8Abs (sn (u - 360) * sn (u - 360) + cs8 (u - 360) * cs8 (u - 360) - 1000000000000) (by omega) (by omega)) (by first | exact .inl rfl | exact .inr rfl) ?_
    simp (config := { maxSteps := 1000000 }) +decide only [NoH, Old, OldL, nilQ, nilA, RechL, ReY, isNew, stepO, XPost, postN, XOk, updN, updU, isEff, avalue, aeff, ASt.eval, ASt.put, ASt.set, ASt.new, Nat.reduceDiv, Nat.reduceAdd, Int.reduceToNat, absV, absC, scalar, alen, acap, conc, flats, live, blkOf, aload, rd, part?, afieldAddr, afield, aindexAddr, cellsOf, afill, places, abuild, optI, asliceV, asliceS, szOk, srcCells, aappend, astore, amakeSlice, abuildSlice, snapL, mapO, treeL, AVal.tree, AVal.flatT, isFlat, ares, isFz, afroz, afrozB, lookupA, lookupH, tops, if_true, if_false, reduceCtorEq, forall_const, ite_true, ite_false, implies_true, walkS, tabS, Tryd.results3, eq_true s4, wu3]
    refine callK (den_sine (u - 360 + 180)) (by first | exact .inl rfl | exact .inr rfl) ?_
    simp (config := { maxSteps := 1000000 }) +decide only [NoH, Old, OldL, nilQ, nilA, RechL, ReY, isNew, stepO, XPost, postN, XOk, updN, updU, isEff, avalue, aeff, ASt.eval, ASt.put, ASt.set, ASt.new, Nat.reduceDiv, Nat.reduceAdd, Int.reduceToNat, absV, absC, scalar, alen, acap, conc, flats, live, blkOf, aload, rd, part?, afieldAddr, afield, aindexAddr, cellsOf, afill, places, abuild, optI, asliceV, asliceS, szOk, srcCells, aappend, astore, amakeSlice, abuildSlice, snapL, mapO, treeL, AVal.tree, AVal.flatT, isFlat, ares, isFz, afroz, afrozB, lookupA, lookupH, tops, if_true, if_false, reduceCtorEq, forall_const, ite_true, ite_false, implies_true, walkS, tabS, Tryd.results3, s3, w7]
    refine callK (den_wedge x y az 0 x' y' h h' (by omega) (by rw [haz]; omega)) (by first | exact .inl rfl | exact .inr rfl) ?_
    simp (config := { maxSteps := 1000000 }) +decide only [NoH, Old, OldL, nilQ, nilA, RechL, ReY, isNew, stepO, XPost, postN, XOk, updN, updU, isEff, avalue, aeff, ASt.eval, ASt.put, ASt.set, ASt.new, Nat.reduceDiv, Nat.reduceAdd, Int.reduceToNat, absV, absC, scalar, alen, acap, conc, flats, live, blkOf, aload, rd, part?, afieldAddr, afield, aindexAddr, cellsOf, afill, places, abuild, optI, asliceV, asliceS, szOk, srcCells, aappend, astore, amakeSlice, abuildSlice, snapL, mapO, treeL, AVal.tree, AVal.flatT, isFlat, ares, isFz, afroz, afrozB, lookupA, lookupH, tops, if_true, if_false, reduceCtorEq, forall_const, ite_true, ite_false, implies_true, walkS, tabS, Tryd.results3]
    refine callK (den_wedge x y (u - 360) 360 x' y' h h' (by omega) (by have := trn_in (brg (x' - x) (y' - y)) (u - 360); omega)) (by first | exact .inl rfl | exact .inr rfl) ?_
    simp (config := { maxSteps := 1000000 }) +decide only [NoH, Old, OldL, nilQ, nilA, RechL, ReY, isNew, stepO, XPost, postN, XOk, updN, updU, isEff, avalue, aeff, ASt.eval, ASt.put, ASt.set, ASt.new, Nat.reduceDiv, Nat.reduceAdd, Int.reduceToNat, absV, absC, scalar, alen, acap, conc, flats, live, blkOf, aload, rd, part?, afieldAddr, afield, aindexAddr, cellsOf, afill, places, abuild, optI, asliceV, asliceS, szOk, srcCells, aappend, astore, amakeSlice, abuildSlice, snapL, mapO, treeL, AVal.tree, AVal.flatT, isFlat, ares, isFz, afroz, afrozB, lookupA, lookupH, tops, if_true, if_false, reduceCtorEq, forall_const, ite_true, ite_false, implies_true, walkS, tabS, Tryd.results3]
theorem shape_bytes : shapeOf Tryd.prog 20 22 = some (.slice 1 (.int .u8)) := by kernel_rfl
theorem globs_met {W : World} (h : laidMetH Tryd.prog Rows.fnBearingsRow.laid W) : Globs (tenv W) := by
  rw [MakeChecks.laidMetH_plain _ _ _ (by kernel_rfl)] at h
  obtain ⟨ps, h0, _, _⟩ := h
  obtain ⟨g0, t0, cs0, f0, p0, q0, a0, b0, c0, d0, h1, _⟩ := h0
  intro x hx
  simp only [globPins, GL.tab, List.map_cons, List.map_nil, List.mem_cons, List.not_mem_nil, or_false] at hx
  subst hx
  exact tab_rep (k := .i64) (L := tab_sineTable) (show Tryd.prog.globalNamed "loop.example/g00925/impl.sineTable" = some 0 by kernel_rfl) (show (Tryd.prog.globals[0]?).map (·.type) = some 40 by kernel_rfl) Tryd.underlying40 Tryd.underlying2 (by kernel_rfl) ⟨g0, t0, cs0, f0, p0, a0, b0, c0, d0⟩
theorem door_met (os : Os) (args : Array Value) : laidMetH Tryd.prog Rows.fnBearingsRow.laid ((World.doorLaid Tryd.prog 400 os).forCall (fun _ _ => 0) ⟨#[], args, []⟩).memory :=
  laidMetH_of_parts3 (fuel := 8) (laidMet_of_run' 8 (by kernel_rfl) (by kernel_rfl)) (by kernel_rfl) (by kernel_rfl)
set_option maxRecDepth 100000 in
theorem law_lifted (os : Os) (started : os.Started) (H : Type) (enc : TypeId × Value → H) :
    ReturnsInHanded {} Tryd.checked os 3 .any (fun w args => (Rows.fnBearingsSpec.pre enc Tryd.prog Tryd.f3 [] false w args ∧ laidMetH Tryd.prog Rows.fnBearingsRow.laid w) ∧ sizedMet enc Tryd.prog Tryd.f3 (OpenSpec.ofChange Rows.fnBearingsSpec) false w args)
      (Rows.fnBearingsSpec.post enc Tryd.prog Tryd.f3 false true false false) := by
  refine returnsInHanded_of_change_and (C := Tryd.checked) (X := fun w _ => laidMetH Tryd.prog Rows.fnBearingsRow.laid w) (fun _ _ _ hh h => h.of_heap hh) ownK started (by kernel_rfl) Tryd.func3
    (ChangeSpec.witness_shaped (enc := enc) (C := Tryd.checked) (os := os) (X := fun w _ => laidMetH Tryd.prog Rows.fnBearingsRow.laid w) false (World.doorLaid Tryd.prog 400 os) #[.slice none 0 0, .slice none 0 0] 8 rfl (World.shaped_of_RefB (by kernel_rfl) (by kernel_rfl)) (by kernel_rfl) (by kernel_rfl) (by kernel_rfl) (door_met os _)) ?_
  intro W base args ds gs before hval hW hcnd _ hL _
  have e : Tryd.f3.params.toList = [22, 22] := by kernel_rfl
  refine law_callsV (C := Tryd.prog) (tb := 4) laidOut (by kernel_rfl) rfl (by kernel_rfl) ?_ ?_ hval hW (globs_met hL) ?_
  · intro t ht
    rw [e] at ht
    simp only [List.mem_cons, List.mem_nil_iff, or_false] at ht
    rcases ht with rfl | rfl
    · exact ⟨by kernel_rfl, of_decide_eq_true (by kernel_rfl), by rw [shape_bytes]; rfl⟩
    · exact ⟨by kernel_rfl, of_decide_eq_true (by kernel_rfl), by rw [shape_bytes]; rfl⟩
  · intro ds gs hds hgs
    match ds, hds, gs, hgs with
    | [_d0, _d1], _, [_g0], _ => exact ⟨rfl, rfl, rfl⟩
  · intro asl has
    rw [e] at has
    obtain ⟨a0, r0, σ0, rfl, hs0, hv0, has1⟩ := has
    rw [shape_bytes] at hs0
    simp only [Option.some.injEq] at hs0
    subst hs0
    obtain ⟨xs0, rfl, hy0⟩ := has_bytesV hv0
    obtain ⟨a1, r1, σ1, rfl, hs1, hv1, rfl⟩ := has1
    rw [shape_bytes] at hs1
    simp only [Option.some.injEq] at hs1
    subst hs1
    obtain ⟨xs1, rfl, hy1⟩ := has_bytesV hv1
    exact den_law xs0 hy0 xs1 hy1
theorem law_holds : Rows.FnBearingsSaid :=
  OpenClaim.holds_of_wide 3 Tryd.f3 rfl rfl rfl rfl rfl rfl rfl ⟨rfl, rfl, rfl, rfl, rfl⟩ rfl rfl rfl rfl rfl (by kernel_rfl) Tryd.func3 (by kernel_rfl)
    (of_decide_eq_true (by kernel_rfl)) (by unfold Func.isWrapper; first | (rw [if_pos (by decide +kernel)]; kernel_rfl) | (rw [if_neg (by decide +kernel)]; exact ⟨rfl, rfl⟩))
    (fun os started H enc _ => law_lifted os started H enc)
theorem card_holds : Rows.FnBearingsCardSaid :=
  Claim7.holds_tied_plain_at .later [] [.data] true (true, "080a4f8a4fcbb2e502661e72ce1cee17ef0404e8f2bb45468f48a785efbba029") false
    law_holds (fun _ h => by cases h) (by kernel_rfl) (fun _ h => by cases h) fnBearings_row_tie rfl ⟨rfl, rfl⟩ (by kernel_rfl) rfl
    (fun f fn hf hfn => by
      obtain rfl : f = 3 := Option.some.inj ((show Tryd.prog.funcNamed "loop.example/g00925/laws.FnBearings" = some 3 by kernel_rfl).symm.trans hf) |>.symm
      obtain rfl : fn = Tryd.f3 := (Option.some.inj (Tryd.func3.symm.trans hfn)).symm
      refine ⟨by kernel_rfl, fun j t ht => ?_⟩
      have hmem : t ∈ Tryd.f3.params.toList := by
        have := Array.mem_of_getElem? ht
        simpa using this
      rw [show Tryd.f3.params.toList = [22, 22] by kernel_rfl] at hmem
      simp only [List.mem_cons, List.mem_nil_iff, or_false] at hmem
      rcases hmem with rfl | rfl
      · exact (show Tryd.prog.wantsStandIn 22 = false by kernel_rfl)
      · exact (show Tryd.prog.wantsStandIn 22 = false by kernel_rfl))
    (by kernel_rfl)
end Go.Proofs.YtngghngfgpiomaaDoor
