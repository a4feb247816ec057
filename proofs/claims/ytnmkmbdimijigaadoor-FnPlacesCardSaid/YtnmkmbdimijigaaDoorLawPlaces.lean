/-
  For every input the law FnPlaces returns true: the tables read as listed.
-/
import Derived.Test.YtnmkmbdimijigaaDoorPlA
import Derived.Test.YtnmkmbdimijigaaDoorPtD
import Derived.Test.YtnmkmbdimijigaaDoorPtE
import Derived.Test.YtnmkmbdimijigaaDoorR8
import Derived.Test.YtnmkmbdimijigaaDoorOwnV
import Derived.Test.YtnmkmbdimijigaaDoorLawBase
import Derived.Test.YtnmkmbdimijigaaDoorCards
import Derived.Test.YtnmkmbdimijigaaDoorTie
namespace Go.Proofs.YtnmkmbdimijigaaDoor
open Go Go.Own Go.Proofs Go.ChangeShapes Go.WideShapes Go.ChangeAt Go.RowKit
set_option maxHeartbeats 4000000
set_option maxRecDepth 20000
set_option linter.unusedSimpArgs false
set_option linter.unusedVariables false
theorem sem_min3 (ats : Array TypeId) (t : TypeId) (a b c : Int) : semS Tryd.prog (Builtin.min_ ats t [.int .i64 a, .int .i64 b, .int .i64 c].toArray) = some (.flat (.int .i64 (min (min a b) c))) := by
  have e : semS Tryd.prog (Builtin.min_ ats t [.int .i64 a, .int .i64 b, .int .i64 c].toArray) = some (.flat (.int .i64 (if c < (if b < a then b else a) then c else (if b < a then b else a)))) := by
    by_cases h : b < a <;> by_cases h2 : c < (if b < a then b else a) <;> rfl
  rw [e]
  congr 3
  split <;> split <;> omega
theorem sq_one {u : Int} (h : u ≠ 0) : 1 ≤ u * u := by
  by_cases c : 0 ≤ u
  · have : 1 * 1 ≤ u * u := Int.mul_le_mul (by omega) (by omega) (by omega) (by omega)
    omega
  · have : 1 * 1 ≤ (-u) * (-u) := Int.mul_le_mul (by omega) (by omega) (by omega) (by omega)
    rw [Int.neg_mul_neg] at this
    omega
theorem sq_nn (u : Int) : 0 ≤ u * u := by
  by_cases c : u = 0
  · subst c; simp
  · have := sq_one c; omega
theorem dst_is (x y x' y' : Int) : 0 ≤ dst x y x' y' ∧ dst x y x' y' * dst x y x' y' ≤ (x - x') * (x - x') + (y - y') * (y - y') ∧ (x - x') * (x - x') + (y - y') * (y - y') < (dst x y x' y' + 1) * (dst x y x' y' + 1) := by
  have a := sq_nn (x - x')
  have b := sq_nn (y - y')
  obtain ⟨h1, h2⟩ := rt_is (n := (x - x') * (x - x') + (y - y') * (y - y')) (by omega)
  exact ⟨by unfold dst; omega, h1, h2⟩
theorem dst_comm (x y x' y' : Int) : dst x' y' x y = dst x y x' y' := by
  unfold dst
  rw [sq_flip x x', sq_flip y y']
theorem dst_self (x y : Int) : dst x y x y = 0 := by
  obtain ⟨a, b, c⟩ := dst_is x y x y
  rw [Int.sub_self, Int.sub_self] at b c
  refine Classical.byContradiction fun k => ?_
  have := sq_one k
  omega
theorem dst_eq {x y x' y' : Int} (h : dst x y x' y' = 0) : x = x' ∧ y = y' := by
  obtain ⟨a, b, c⟩ := dst_is x y x' y'
  rw [h] at c
  have n1 := sq_nn (x - x')
  have n2 := sq_nn (y - y')
  constructor
  · refine Classical.byContradiction fun k => ?_
    have := sq_one (u := x - x') (by omega)
    omega
  · refine Classical.byContradiction fun k => ?_
    have := sq_one (u := y - y') (by omega)
    omega
theorem tri_alg (u v p q R S : Int) (hR : 0 ≤ R) (hS : 0 ≤ S) (hA : u * u + v * v < R * R) (hB : p * p + q * q < S * S) : (u + p) * (u + p) + (v + q) * (v + q) < (R + S) * (R + S) := by
  have e1 : (u * u + v * v) * (p * p + q * q) = (u * p + v * q) * (u * p + v * q) + (u * q - v * p) * (u * q - v * p) := by grind
  have n1 := sq_nn (u * q - v * p)
  have n2 := sq_nn u
  have n3 := sq_nn v
  have n4 := sq_nn p
  have n5 := sq_nn q
  have m1 : (u * u + v * v) * (p * p + q * q) ≤ (R * R) * (S * S) := Int.mul_le_mul (by omega) (by omega) (by omega) (by omega)
  have e2 : (R * R) * (S * S) = (R * S) * (R * S) := by grind
  have n6 : 0 ≤ R * S := Int.mul_nonneg hR hS
  have m2 : u * p + v * q ≤ R * S := by
    refine Classical.byContradiction fun k => ?_
    have := sq_mono (a := R * S + 1) (b := u * p + v * q) (by omega) (by omega)
    have e3 : (R * S + 1) * (R * S + 1) = (R * S) * (R * S) + 2 * (R * S) + 1 := by grind
    omega
  have e4 : (u + p) * (u + p) + (v + q) * (v + q) = (u * u + v * v) + (p * p + q * q) + 2 * (u * p + v * q) := by grind
  have e5 : (R + S) * (R + S) = R * R + S * S + 2 * (R * S) := by grind
  omega
theorem dst_tri (x y x' y' x2 y2 : Int) : dst x y x2 y2 ≤ dst x y x' y' + dst x' y' x2 y2 + 1 := by
  obtain ⟨a1, a2, a3⟩ := dst_is x y x' y'
  obtain ⟨b1, b2, b3⟩ := dst_is x' y' x2 y2
  obtain ⟨c1, c2, c3⟩ := dst_is x y x2 y2
  have k := tri_alg (x - x') (y - y') (x' - x2) (y' - y2) (dst x y x' y' + 1) (dst x' y' x2 y2 + 1) (by omega) (by omega) a3 b3
  rw [show x - x' + (x' - x2) = x - x2 by omega, show y - y' + (y' - y2) = y - y2 by omega] at k
  refine Classical.byContradiction fun h => ?_
  have := sq_mono (a := dst x y x' y' + 1 + (dst x' y' x2 y2 + 1)) (b := dst x y x2 y2) (by omega) (by omega)
  omega
theorem den_law (bs : List Int) (hb0 : ∀ x ∈ bs, 0 ≤ x ∧ x ≤ 255) (ms : List Int) (hm0 : ∀ x ∈ ms, 0 ≤ x ∧ x ≤ 255) : Den Tryd.prog 5 [bytesV bs, bytesV ms] (.b true) := by
  refine den_of_awpG (ghs [] [164, 192]) Tryd.func5 rfl (by kernel_rfl) (Nat.le_of_ble_eq_true rfl) (by simp only [treeL, AVal.tree, treeL_i, treeL_ints, treeL_u8, treeL_append, Bool.and_self, Bool.and_true, Bool.true_and]) (by first | rfl | simp only [treeL, AVal.tree, treeL_i, treeL_ints, treeL_u8, treeL_append, Bool.and_self, Bool.and_true, Bool.true_and]) mixed (by kernel_rfl) fun hl => ?_
  simp only [lensL, lens, lensL_i, lensL_mapC, maxI, and_true, true_and] at hl
  rw [Tryd.ntmps5]
  refine ex_start ?_
  simp (config := { maxSteps := 1000000 }) +decide only [NoH, Old, OldL, nilQ, nilA, asgn, nz, RechL, ReY, isNew, stepO, XPost, postN, XOk, updN, updU, isEff, avalue, aeff, ASt.eval, ASt.put, ASt.set, ASt.new, Nat.reduceDiv, Nat.reduceAdd, Int.reduceToNat, absV, absC, scalar, alen, acap, conc, flats, live, blkOf, aload, rd, part?, afieldAddr, afield, aindexAddr, cellsOf, afill, places, abuild, optI, asliceV, asliceS, szOk, srcCells, aappend, acopy, astore, amakeSlice, abuildSlice, snapL, mapO, treeL, AVal.tree, AVal.flatT, isFlat, ares, isFz, afroz, afrozB, lookupA, lookupH, tops, if_true, if_false, reduceCtorEq, forall_const, ite_true, ite_false, implies_true, walkS, tabS, Tryd.results5]
  refine callK (den_r8Long bs ms) (by first | exact .inl rfl | exact .inr rfl) ?_
  by_cases lb : 1048576 < bs.length ∨ 1048576 < ms.length
  · simp (config := { maxSteps := 1000000 }) +decide only [NoH, Old, OldL, nilQ, nilA, asgn, nz, RechL, ReY, isNew, stepO, XPost, postN, XOk, updN, updU, isEff, avalue, aeff, ASt.eval, ASt.put, ASt.set, ASt.new, Nat.reduceDiv, Nat.reduceAdd, Int.reduceToNat, absV, absC, scalar, alen, acap, conc, flats, live, blkOf, aload, rd, part?, afieldAddr, afield, aindexAddr, cellsOf, afill, places, abuild, optI, asliceV, asliceS, szOk, srcCells, aappend, acopy, astore, amakeSlice, abuildSlice, snapL, mapO, treeL, AVal.tree, AVal.flatT, isFlat, ares, isFz, afroz, afrozB, lookupA, lookupH, tops, if_true, if_false, reduceCtorEq, forall_const, ite_true, ite_false, implies_true, walkS, tabS, Tryd.results5, eq_true lb]
  simp (config := { maxSteps := 1000000 }) +decide only [NoH, Old, OldL, nilQ, nilA, asgn, nz, RechL, ReY, isNew, stepO, XPost, postN, XOk, updN, updU, isEff, avalue, aeff, ASt.eval, ASt.put, ASt.set, ASt.new, Nat.reduceDiv, Nat.reduceAdd, Int.reduceToNat, absV, absC, scalar, alen, acap, conc, flats, live, blkOf, aload, rd, part?, afieldAddr, afield, aindexAddr, cellsOf, afill, places, abuild, optI, asliceV, asliceS, szOk, srcCells, aappend, acopy, astore, amakeSlice, abuildSlice, snapL, mapO, treeL, AVal.tree, AVal.flatT, isFlat, ares, isFz, afroz, afrozB, lookupA, lookupH, tops, if_true, if_false, reduceCtorEq, forall_const, ite_true, ite_false, implies_true, walkS, tabS, Tryd.results5, eq_false lb]
  have hb := byt8 hb0 (fun h => lb (.inl h))
  have hm := byt8 hm0 (fun h => lb (.inr h))
  refine callX (denx_R8Points hb) (by simp (config := { maxSteps := 1000000 }) +decide only [NoH, Old, OldL, nilQ, nilA, asgn, nz, RechL, ReY, isNew, stepO, XPost, postN, XOk, updN, updU, isEff, avalue, aeff, ASt.eval, ASt.put, ASt.set, ASt.new, Nat.reduceDiv, Nat.reduceAdd, Int.reduceToNat, absV, absC, scalar, alen, acap, conc, flats, live, blkOf, aload, rd, part?, afieldAddr, afield, aindexAddr, cellsOf, afill, places, abuild, optI, asliceV, asliceS, szOk, srcCells, aappend, acopy, astore, amakeSlice, abuildSlice, snapL, mapO, treeL, AVal.tree, AVal.flatT, isFlat, ares, isFz, afroz, afrozB, lookupA, lookupH, tops, if_true, if_false, reduceCtorEq, forall_const, ite_true, ite_false, implies_true, walkS, tabS, Tryd.results5]) ?_
  have ha := (p3_in hb (0, 0)).1
  have hb2 := (p3_in hb (p3S0 bs)).1
  have hc := (p3_in hb (p3S1 bs)).1
  generalize p3X bs (0, 0) = x at ha ⊢
  generalize p3Y bs (0, 0) = y at ha ⊢
  generalize p3X bs (p3S0 bs) = x' at hb2 ⊢
  generalize p3Y bs (p3S0 bs) = y' at hb2 ⊢
  generalize p3X bs (p3S1 bs) = x2 at hc ⊢
  generalize p3Y bs (p3S1 bs) = y2 at hc ⊢
  have tri := dst_tri x y x' y' x2 y2
  have d1 := den_Distance x y x' y' ha hb2
  have d2 := den_Distance x' y' x2 y2 hb2 hc
  have d3 := den_Distance x y x2 y2 ha hc
  have d4 := den_Distance x' y' x y hb2 ha
  rw [dst_comm] at d4
  have d5 := den_Distance x y x y ha ha
  rw [dst_self] at d5
  have zero : dst x y x' y' = 0 → x = x' ∧ y = y' := dst_eq
  have zero2 : x = x' ∧ y = y' → dst x y x' y' = 0 := fun ⟨e1, e2⟩ => by rw [e1, e2]; exact dst_self _ _
  have nn1 := (dst_is x y x' y').1
  have nn2 := (dst_is x' y' x2 y2).1
  have bd : ∀ {a b c d : Int}, OkPt a b → OkPt c d → dst a b c d ≤ 400000 := fun {a b c d} h h' => by
    obtain ⟨c1, c2, c3⟩ := dst_is a b c d
    obtain ⟨⟨g1, g2⟩, g3, g4⟩ := h
    obtain ⟨⟨g5, g6⟩, g7, g8⟩ := h'
    have k1 := (sq_le (a := a - c) (b := 200000) (by omega) (by omega)).2
    have k2 := (sq_le (a := b - d) (b := 200000) (by omega) (by omega)).2
    refine Classical.byContradiction fun k => ?_
    have := sq_mono (a := 400001) (b := dst a b c d) (by omega) (by omega)
    omega
  have bd1 := bd ha hb2
  have bd2 := bd hb2 hc
  clear bd
  generalize dst x y x' y' = ab at *
  generalize dst x' y' x2 y2 = bc at *
  generalize dst x y x2 y2 = ac at *
  have w1 : IntKind.i64.wrap (ab + bc) = ab + bc := wrap64 (by omega) (by omega)
  have w2 : IntKind.i64.wrap (ab + bc + 1) = ab + bc + 1 := wrap64 (by omega) (by omega)
  have q1 : ¬ ab + bc + 1 < ac := by omega
  have v0 := r8V_in hm 0 30
  have dv := den_r8At hm 0 30
  generalize r8V ms 0 30 = v at v0 dv
  have v1 := v0.2.1 (by omega)
  obtain ⟨n, hn⟩ : ∃ n, 1 + v = n := ⟨_, rfl⟩
  have wn : IntKind.i64.wrap n = n := wrap64 (by omega) (by omega)
  have wn1 : IntKind.i64.wrap (n + 1) = n + 1 := wrap64 (by omega) (by omega)
  have i0 := r8V_in hm 1 (n + 1)
  have di := den_r8At hm 1 (n + 1)
  generalize r8V ms 1 (n + 1) = i at i0 di
  have i1 := i0.2.1 (by omega)
  have a1 := den_Along x y x' y' i n ha hb2 ⟨by omega, by omega⟩ ⟨by omega, by omega⟩
  have a2 := den_Along x y x' y' 0 n ha hb2 ⟨by omega, by omega⟩ ⟨by omega, by omega⟩
  have a3 := den_Along x y x' y' n n ha hb2 ⟨by omega, by omega⟩ ⟨by omega, by omega⟩
  rw [alV_0 (by omega), alV_0 (by omega)] at a2
  rw [alV_n (by omega), alV_n (by omega)] at a3
  have g1 := alV_in (x := x) (x' := x') (i := i) (n := n) (by omega) (by omega) (by omega)
  have g2 := alV_in (x := y) (x' := y') (i := i) (n := n) (by omega) (by omega) (by omega)
  generalize alV x x' i n = u at *
  generalize alV y y' i n = w at *
  have hp : OkPt u w := by
    obtain ⟨⟨_, _⟩, _, _⟩ := ha
    obtain ⟨⟨_, _⟩, _, _⟩ := hb2
    exact ⟨⟨by omega, by omega⟩, by omega, by omega⟩
  have m1 : ¬ u < min x x' := by omega
  have m2 : ¬ max x x' < u := by omega
  have m3 : ¬ w < min y y' := by omega
  have m4 : ¬ max y y' < w := by omega
  have hL : [x, y, x', y', x2, y2].length = 3 * 2 := rfl
  have p0 : px [x, y, x', y', x2, y2] 0 = x ∧ py [x, y, x', y', x2, y2] 0 = y := ⟨rfl, rfl⟩
  have p1 : px [x, y, x', y', x2, y2] 1 = x' ∧ py [x, y, x', y', x2, y2] 1 = y' := ⟨rfl, rfl⟩
  have p2 : px [x, y, x', y', x2, y2] 2 = x2 ∧ py [x, y, x', y', x2, y2] 2 = y2 := ⟨rfl, rfl⟩
  have hok : ∀ k, k < 3 → OkPt (px [x, y, x', y', x2, y2] k) (py [x, y, x', y', x2, y2] k) := fun k hk => by
    match k, hk with
    | 0, _ => exact ha
    | 1, _ => exact hb2
    | 2, _ => exact hc
  have dn := den_NearestOf [x, y, x', y', x2, y2] 3 hL (by omega) (by omega) hok u w hp
  have nl := nst_lt [x, y, x', y', x2, y2] u w 3
  have n0 := nst_le [x, y, x', y', x2, y2] u w 3 0 (by omega)
  have n1 := nst_le [x, y, x', y', x2, y2] u w 3 1 (by omega)
  have n2 := nst_le [x, y, x', y', x2, y2] u w 3 2 (by omega)
  generalize nst [x, y, x', y', x2, y2] u w 3 = k at *
  have hk3 : k < 3 := by omega
  rw [p0.1, p0.2] at n0
  rw [p1.1, p1.2] at n1
  rw [p2.1, p2.2] at n2
  have e1 := den_Distance x y u w ha hp
  have e2 := den_Distance x' y' u w hb2 hp
  have e3 := den_Distance x2 y2 u w hc hp
  have dk : ∃ X Y D, ([AVal.i x, AVal.i y, AVal.i x', AVal.i y', AVal.i x2, AVal.i y2].drop (k * 2)).take 2 = [.i X, .i Y] ∧ Den Tryd.prog 24 [pointV X Y, pointV u w] (.i D) ∧ D = min (min (dst x y u w) (dst x' y' u w)) (dst x2 y2 u w) := by
    match k, hk3 with
    | 0, _ =>
      rw [p0.1, p0.2] at n1 n2
      exact ⟨x, y, _, rfl, e1, by omega⟩
    | 1, _ =>
      rw [p1.1, p1.2] at n0 n2
      exact ⟨x', y', _, rfl, e2, by omega⟩
    | 2, _ =>
      rw [p2.1, p2.2] at n0 n1
      exact ⟨x2, y2, _, rfl, e3, by omega⟩
  obtain ⟨X, Y, D, k1, k2, k3⟩ := dk
  generalize dst x y u w = r1 at *
  generalize dst x' y' u w = r2 at *
  generalize dst x2 y2 u w = r3 at *
  have dt := den_PointText x2 y2 hc
  have dr := den_ReadPoint x2 y2 hc
  have kI1 : ¬ (k : Int) < 0 := by omega
  have kI2 : ¬ (2 : Int) < (k : Int) := by omega
  have kI3 : (k : Int) < 3 := by omega
  have kI4 : (k + 1) * 2 ≤ 6 := by omega
  have kI5 : k * 2 + 2 ≤ 6 := by omega
  have b0 : (x == x && y == y) = true := by simp
  have b1 : (x' == x' && y' == y') = true := by simp
  have b2 : (x2 == x2 && y2 == y2) = true := by simp
  simp (config := { maxSteps := 1000000 }) +decide only [NoH, Old, OldL, nilQ, nilA, asgn, nz, RechL, ReY, isNew, stepO, XPost, postN, XOk, updN, updU, isEff, avalue, aeff, ASt.eval, ASt.put, ASt.set, ASt.new, Nat.reduceDiv, Nat.reduceAdd, Int.reduceToNat, absV, absC, scalar, alen, acap, conc, flats, live, blkOf, aload, rd, part?, afieldAddr, afield, aindexAddr, cellsOf, afill, places, abuild, optI, asliceV, asliceS, szOk, srcCells, aappend, acopy, astore, amakeSlice, abuildSlice, snapL, mapO, treeL, AVal.tree, AVal.flatT, isFlat, ares, isFz, afroz, afrozB, lookupA, lookupH, tops, if_true, if_false, reduceCtorEq, forall_const, ite_true, ite_false, implies_true, walkS, tabS, Tryd.results5]
  refine callK (d1) (by first | exact .inl rfl | exact .inr rfl) ?_
  simp (config := { maxSteps := 1000000 }) +decide only [NoH, Old, OldL, nilQ, nilA, asgn, nz, RechL, ReY, isNew, stepO, XPost, postN, XOk, updN, updU, isEff, avalue, aeff, ASt.eval, ASt.put, ASt.set, ASt.new, Nat.reduceDiv, Nat.reduceAdd, Int.reduceToNat, absV, absC, scalar, alen, acap, conc, flats, live, blkOf, aload, rd, part?, afieldAddr, afield, aindexAddr, cellsOf, afill, places, abuild, optI, asliceV, asliceS, szOk, srcCells, aappend, acopy, astore, amakeSlice, abuildSlice, snapL, mapO, treeL, AVal.tree, AVal.flatT, isFlat, ares, isFz, afroz, afrozB, lookupA, lookupH, tops, if_true, if_false, reduceCtorEq, forall_const, ite_true, ite_false, implies_true, walkS, tabS, Tryd.results5]
  refine callK (d2) (by first | exact .inl rfl | exact .inr rfl) ?_
  simp (config := { maxSteps := 1000000 }) +decide only [NoH, Old, OldL, nilQ, nilA, asgn, nz, RechL, ReY, isNew, stepO, XPost, postN, XOk, updN, updU, isEff, avalue, aeff, ASt.eval, ASt.put, ASt.set, ASt.new, Nat.reduceDiv, Nat.reduceAdd, Int.reduceToNat, absV, absC, scalar, alen, acap, conc, flats, live, blkOf, aload, rd, part?, afieldAddr, afield, aindexAddr, cellsOf, afill, places, abuild, optI, asliceV, asliceS, szOk, srcCells, aappend, acopy, astore, amakeSlice, abuildSlice, snapL, mapO, treeL, AVal.tree, AVal.flatT, isFlat, ares, isFz, afroz, afrozB, lookupA, lookupH, tops, if_true, if_false, reduceCtorEq, forall_const, ite_true, ite_false, implies_true, walkS, tabS, Tryd.results5]
  refine callK (d3) (by first | exact .inl rfl | exact .inr rfl) ?_
  simp (config := { maxSteps := 1000000 }) +decide only [NoH, Old, OldL, nilQ, nilA, asgn, nz, RechL, ReY, isNew, stepO, XPost, postN, XOk, updN, updU, isEff, avalue, aeff, ASt.eval, ASt.put, ASt.set, ASt.new, Nat.reduceDiv, Nat.reduceAdd, Int.reduceToNat, absV, absC, scalar, alen, acap, conc, flats, live, blkOf, aload, rd, part?, afieldAddr, afield, aindexAddr, cellsOf, afill, places, abuild, optI, asliceV, asliceS, szOk, srcCells, aappend, acopy, astore, amakeSlice, abuildSlice, snapL, mapO, treeL, AVal.tree, AVal.flatT, isFlat, ares, isFz, afroz, afrozB, lookupA, lookupH, tops, if_true, if_false, reduceCtorEq, forall_const, ite_true, ite_false, implies_true, walkS, tabS, Tryd.results5]
  refine callK (d4) (by first | exact .inl rfl | exact .inr rfl) ?_
  by_cases hz : ab = 0
  case' pos =>
    have bz : (x == x' && y == y') = true := by simpa using zero hz
    simp (config := { maxSteps := 1000000 }) +decide only [NoH, Old, OldL, nilQ, nilA, asgn, nz, RechL, ReY, isNew, stepO, XPost, postN, XOk, updN, updU, isEff, avalue, aeff, ASt.eval, ASt.put, ASt.set, ASt.new, Nat.reduceDiv, Nat.reduceAdd, Int.reduceToNat, absV, absC, scalar, alen, acap, conc, flats, live, blkOf, aload, rd, part?, afieldAddr, afield, aindexAddr, cellsOf, afill, places, abuild, optI, asliceV, asliceS, szOk, srcCells, aappend, acopy, astore, amakeSlice, abuildSlice, snapL, mapO, treeL, AVal.tree, AVal.flatT, isFlat, ares, isFz, afroz, afrozB, lookupA, lookupH, tops, if_true, if_false, reduceCtorEq, forall_const, ite_true, ite_false, implies_true, walkS, tabS, Tryd.results5, w1, w2, eq_false q1, sem_ptEql, bz, eq_true hz]
  case' neg =>
    have bz : (x == x' && y == y') = false := by
      rw [Bool.eq_false_iff]
      intro h
      exact hz (zero2 (by simpa using h))
    simp (config := { maxSteps := 1000000 }) +decide only [NoH, Old, OldL, nilQ, nilA, asgn, nz, RechL, ReY, isNew, stepO, XPost, postN, XOk, updN, updU, isEff, avalue, aeff, ASt.eval, ASt.put, ASt.set, ASt.new, Nat.reduceDiv, Nat.reduceAdd, Int.reduceToNat, absV, absC, scalar, alen, acap, conc, flats, live, blkOf, aload, rd, part?, afieldAddr, afield, aindexAddr, cellsOf, afill, places, abuild, optI, asliceV, asliceS, szOk, srcCells, aappend, acopy, astore, amakeSlice, abuildSlice, snapL, mapO, treeL, AVal.tree, AVal.flatT, isFlat, ares, isFz, afroz, afrozB, lookupA, lookupH, tops, if_true, if_false, reduceCtorEq, forall_const, ite_true, ite_false, implies_true, walkS, tabS, Tryd.results5, w1, w2, eq_false q1, sem_ptEql, bz, eq_false hz]
  all_goals
    refine callK (d5) (by first | exact .inl rfl | exact .inr rfl) ?_
    simp (config := { maxSteps := 1000000 }) +decide only [NoH, Old, OldL, nilQ, nilA, asgn, nz, RechL, ReY, isNew, stepO, XPost, postN, XOk, updN, updU, isEff, avalue, aeff, ASt.eval, ASt.put, ASt.set, ASt.new, Nat.reduceDiv, Nat.reduceAdd, Int.reduceToNat, absV, absC, scalar, alen, acap, conc, flats, live, blkOf, aload, rd, part?, afieldAddr, afield, aindexAddr, cellsOf, afill, places, abuild, optI, asliceV, asliceS, szOk, srcCells, aappend, acopy, astore, amakeSlice, abuildSlice, snapL, mapO, treeL, AVal.tree, AVal.flatT, isFlat, ares, isFz, afroz, afrozB, lookupA, lookupH, tops, if_true, if_false, reduceCtorEq, forall_const, ite_true, ite_false, implies_true, walkS, tabS, Tryd.results5]
    refine callK (dv) (by first | exact .inl rfl | exact .inr rfl) ?_
    simp (config := { maxSteps := 1000000 }) +decide only [NoH, Old, OldL, nilQ, nilA, asgn, nz, RechL, ReY, isNew, stepO, XPost, postN, XOk, updN, updU, isEff, avalue, aeff, ASt.eval, ASt.put, ASt.set, ASt.new, Nat.reduceDiv, Nat.reduceAdd, Int.reduceToNat, absV, absC, scalar, alen, acap, conc, flats, live, blkOf, aload, rd, part?, afieldAddr, afield, aindexAddr, cellsOf, afill, places, abuild, optI, asliceV, asliceS, szOk, srcCells, aappend, acopy, astore, amakeSlice, abuildSlice, snapL, mapO, treeL, AVal.tree, AVal.flatT, isFlat, ares, isFz, afroz, afrozB, lookupA, lookupH, tops, if_true, if_false, reduceCtorEq, forall_const, ite_true, ite_false, implies_true, walkS, tabS, Tryd.results5, hn, wn, wn1]
    refine callK (di) (by first | exact .inl rfl | exact .inr rfl) ?_
    simp (config := { maxSteps := 1000000 }) +decide only [NoH, Old, OldL, nilQ, nilA, asgn, nz, RechL, ReY, isNew, stepO, XPost, postN, XOk, updN, updU, isEff, avalue, aeff, ASt.eval, ASt.put, ASt.set, ASt.new, Nat.reduceDiv, Nat.reduceAdd, Int.reduceToNat, absV, absC, scalar, alen, acap, conc, flats, live, blkOf, aload, rd, part?, afieldAddr, afield, aindexAddr, cellsOf, afill, places, abuild, optI, asliceV, asliceS, szOk, srcCells, aappend, acopy, astore, amakeSlice, abuildSlice, snapL, mapO, treeL, AVal.tree, AVal.flatT, isFlat, ares, isFz, afroz, afrozB, lookupA, lookupH, tops, if_true, if_false, reduceCtorEq, forall_const, ite_true, ite_false, implies_true, walkS, tabS, Tryd.results5]
    refine callK (a1) (by first | exact .inl rfl | exact .inr rfl) ?_
    simp (config := { maxSteps := 1000000 }) +decide only [NoH, Old, OldL, nilQ, nilA, asgn, nz, RechL, ReY, isNew, stepO, XPost, postN, XOk, updN, updU, isEff, avalue, aeff, ASt.eval, ASt.put, ASt.set, ASt.new, Nat.reduceDiv, Nat.reduceAdd, Int.reduceToNat, absV, absC, scalar, alen, acap, conc, flats, live, blkOf, aload, rd, part?, afieldAddr, afield, aindexAddr, cellsOf, afill, places, abuild, optI, asliceV, asliceS, szOk, srcCells, aappend, acopy, astore, amakeSlice, abuildSlice, snapL, mapO, treeL, AVal.tree, AVal.flatT, isFlat, ares, isFz, afroz, afrozB, lookupA, lookupH, tops, if_true, if_false, reduceCtorEq, forall_const, ite_true, ite_false, implies_true, walkS, tabS, Tryd.results5]
    refine callK (a2) (by first | exact .inl rfl | exact .inr rfl) ?_
    simp (config := { maxSteps := 1000000 }) +decide only [NoH, Old, OldL, nilQ, nilA, asgn, nz, RechL, ReY, isNew, stepO, XPost, postN, XOk, updN, updU, isEff, avalue, aeff, ASt.eval, ASt.put, ASt.set, ASt.new, Nat.reduceDiv, Nat.reduceAdd, Int.reduceToNat, absV, absC, scalar, alen, acap, conc, flats, live, blkOf, aload, rd, part?, afieldAddr, afield, aindexAddr, cellsOf, afill, places, abuild, optI, asliceV, asliceS, szOk, srcCells, aappend, acopy, astore, amakeSlice, abuildSlice, snapL, mapO, treeL, AVal.tree, AVal.flatT, isFlat, ares, isFz, afroz, afrozB, lookupA, lookupH, tops, if_true, if_false, reduceCtorEq, forall_const, ite_true, ite_false, implies_true, walkS, tabS, Tryd.results5]
    refine callK (a3) (by first | exact .inl rfl | exact .inr rfl) ?_
    simp (config := { maxSteps := 1000000 }) +decide only [NoH, Old, OldL, nilQ, nilA, asgn, nz, RechL, ReY, isNew, stepO, XPost, postN, XOk, updN, updU, isEff, avalue, aeff, ASt.eval, ASt.put, ASt.set, ASt.new, Nat.reduceDiv, Nat.reduceAdd, Int.reduceToNat, absV, absC, scalar, alen, acap, conc, flats, live, blkOf, aload, rd, part?, afieldAddr, afield, aindexAddr, cellsOf, afill, places, abuild, optI, asliceV, asliceS, szOk, srcCells, aappend, acopy, astore, amakeSlice, abuildSlice, snapL, mapO, treeL, AVal.tree, AVal.flatT, isFlat, ares, isFz, afroz, afrozB, lookupA, lookupH, tops, if_true, if_false, reduceCtorEq, forall_const, ite_true, ite_false, implies_true, walkS, tabS, Tryd.results5, sem_ptNeq, b0, b1, sem_min, sem_mx, eq_false m1, eq_false m2, eq_false m3, eq_false m4, List.replicate_succ, List.flatten_cons, List.flatten_nil, mapC_lit, mapC_nil, Nat.zero_mul, Nat.reduceMul]
    refine callK (dn) (by first | exact .inl rfl | exact .inr rfl) ?_
    simp (config := { maxSteps := 1000000 }) +decide only [NoH, Old, OldL, nilQ, nilA, asgn, nz, RechL, ReY, isNew, stepO, XPost, postN, XOk, updN, updU, isEff, avalue, aeff, ASt.eval, ASt.put, ASt.set, ASt.new, Nat.reduceDiv, Nat.reduceAdd, Int.reduceToNat, absV, absC, scalar, alen, acap, conc, flats, live, blkOf, aload, rd, part?, afieldAddr, afield, aindexAddr, cellsOf, afill, places, abuild, optI, asliceV, asliceS, szOk, srcCells, aappend, acopy, astore, amakeSlice, abuildSlice, snapL, mapO, treeL, AVal.tree, AVal.flatT, isFlat, ares, isFz, afroz, afrozB, lookupA, lookupH, tops, if_true, if_false, reduceCtorEq, forall_const, ite_true, ite_false, implies_true, walkS, tabS, Tryd.results5, eq_false kI1, eq_false kI2]
    refine callK (e1) (by first | exact .inl rfl | exact .inr rfl) ?_
    simp (config := { maxSteps := 1000000 }) +decide only [NoH, Old, OldL, nilQ, nilA, asgn, nz, RechL, ReY, isNew, stepO, XPost, postN, XOk, updN, updU, isEff, avalue, aeff, ASt.eval, ASt.put, ASt.set, ASt.new, Nat.reduceDiv, Nat.reduceAdd, Int.reduceToNat, absV, absC, scalar, alen, acap, conc, flats, live, blkOf, aload, rd, part?, afieldAddr, afield, aindexAddr, cellsOf, afill, places, abuild, optI, asliceV, asliceS, szOk, srcCells, aappend, acopy, astore, amakeSlice, abuildSlice, snapL, mapO, treeL, AVal.tree, AVal.flatT, isFlat, ares, isFz, afroz, afrozB, lookupA, lookupH, tops, if_true, if_false, reduceCtorEq, forall_const, ite_true, ite_false, implies_true, walkS, tabS, Tryd.results5]
    refine callK (e2) (by first | exact .inl rfl | exact .inr rfl) ?_
    simp (config := { maxSteps := 1000000 }) +decide only [NoH, Old, OldL, nilQ, nilA, asgn, nz, RechL, ReY, isNew, stepO, XPost, postN, XOk, updN, updU, isEff, avalue, aeff, ASt.eval, ASt.put, ASt.set, ASt.new, Nat.reduceDiv, Nat.reduceAdd, Int.reduceToNat, absV, absC, scalar, alen, acap, conc, flats, live, blkOf, aload, rd, part?, afieldAddr, afield, aindexAddr, cellsOf, afill, places, abuild, optI, asliceV, asliceS, szOk, srcCells, aappend, acopy, astore, amakeSlice, abuildSlice, snapL, mapO, treeL, AVal.tree, AVal.flatT, isFlat, ares, isFz, afroz, afrozB, lookupA, lookupH, tops, if_true, if_false, reduceCtorEq, forall_const, ite_true, ite_false, implies_true, walkS, tabS, Tryd.results5]
    refine callK (e3) (by first | exact .inl rfl | exact .inr rfl) ?_
    simp (config := { maxSteps := 1000000 }) +decide only [NoH, Old, OldL, nilQ, nilA, asgn, nz, RechL, ReY, isNew, stepO, XPost, postN, XOk, updN, updU, isEff, avalue, aeff, ASt.eval, ASt.put, ASt.set, ASt.new, Nat.reduceDiv, Nat.reduceAdd, Int.reduceToNat, absV, absC, scalar, alen, acap, conc, flats, live, blkOf, aload, rd, part?, afieldAddr, afield, aindexAddr, cellsOf, afill, places, abuild, optI, asliceV, asliceS, szOk, srcCells, aappend, acopy, astore, amakeSlice, abuildSlice, snapL, mapO, treeL, AVal.tree, AVal.flatT, isFlat, ares, isFz, afroz, afrozB, lookupA, lookupH, tops, if_true, if_false, reduceCtorEq, forall_const, ite_true, ite_false, implies_true, walkS, tabS, Tryd.results5, sem_min3, List.replicate_succ, List.flatten_cons, List.flatten_nil, mapC_lit, mapC_nil, Nat.zero_mul, Nat.reduceMul]
    refine callK (dt) (by first | exact .inl rfl | exact .inr rfl) ?_
    simp (config := { maxSteps := 1000000 }) +decide only [NoH, Old, OldL, nilQ, nilA, asgn, nz, RechL, ReY, isNew, stepO, XPost, postN, XOk, updN, updU, isEff, avalue, aeff, ASt.eval, ASt.put, ASt.set, ASt.new, Nat.reduceDiv, Nat.reduceAdd, Int.reduceToNat, absV, absC, scalar, alen, acap, conc, flats, live, blkOf, aload, rd, part?, afieldAddr, afield, aindexAddr, cellsOf, afill, places, abuild, optI, asliceV, asliceS, szOk, srcCells, aappend, acopy, astore, amakeSlice, abuildSlice, snapL, mapO, treeL, AVal.tree, AVal.flatT, isFlat, ares, isFz, afroz, afrozB, lookupA, lookupH, tops, if_true, if_false, reduceCtorEq, forall_const, ite_true, ite_false, implies_true, walkS, tabS, Tryd.results5]
    refine callK (dr) (by first | exact .inl rfl | exact .inr rfl) ?_
    simp (config := { maxSteps := 1000000 }) +decide only [NoH, Old, OldL, nilQ, nilA, asgn, nz, RechL, ReY, isNew, stepO, XPost, postN, XOk, updN, updU, isEff, avalue, aeff, ASt.eval, ASt.put, ASt.set, ASt.new, Nat.reduceDiv, Nat.reduceAdd, Int.reduceToNat, absV, absC, scalar, alen, acap, conc, flats, live, blkOf, aload, rd, part?, afieldAddr, afield, aindexAddr, cellsOf, afill, places, abuild, optI, asliceV, asliceS, szOk, srcCells, aappend, acopy, astore, amakeSlice, abuildSlice, snapL, mapO, treeL, AVal.tree, AVal.flatT, isFlat, ares, isFz, afroz, afrozB, lookupA, lookupH, tops, if_true, if_false, reduceCtorEq, forall_const, ite_true, ite_false, implies_true, walkS, tabS, Tryd.results5, k1, eq_true hk3, eq_true kI3, eq_true kI4, eq_true kI5]
    refine callK (k2) (by first | exact .inl rfl | exact .inr rfl) ?_
    simp (config := { maxSteps := 1000000 }) +decide only [NoH, Old, OldL, nilQ, nilA, asgn, nz, RechL, ReY, isNew, stepO, XPost, postN, XOk, updN, updU, isEff, avalue, aeff, ASt.eval, ASt.put, ASt.set, ASt.new, Nat.reduceDiv, Nat.reduceAdd, Int.reduceToNat, absV, absC, scalar, alen, acap, conc, flats, live, blkOf, aload, rd, part?, afieldAddr, afield, aindexAddr, cellsOf, afill, places, abuild, optI, asliceV, asliceS, szOk, srcCells, aappend, acopy, astore, amakeSlice, abuildSlice, snapL, mapO, treeL, AVal.tree, AVal.flatT, isFlat, ares, isFz, afroz, afrozB, lookupA, lookupH, tops, if_true, if_false, reduceCtorEq, forall_const, ite_true, ite_false, implies_true, walkS, tabS, Tryd.results5, k3, sem_ptEql, b2]
theorem shape_bytes : shapeOf Tryd.prog 20 22 = some (.slice 1 (.int .u8)) := by kernel_rfl
theorem globs_met {W : World} (hsh : W.ShapedOpen Tryd.prog) (h : laidMetH Tryd.prog Rows.fnPlacesRow.laid W) : Globs (tenv W) := by
  rw [MakeChecks.laidMetH_plain _ _ _ (by kernel_rfl)] at h
  obtain ⟨ps, h0, _, _⟩ := h
  obtain ⟨g0, t0, cs0, f0, p0, q0, a0, b0, c0, d0, h1, _⟩ := h0
  obtain ⟨g1, t1, cs1, f1, p1, q1, a1, b1, c1, d1, h2, _⟩ := h1
  obtain ⟨g2, t2, cs2, f2, p2, q2, a2, b2, c2, d2, h3, _⟩ := h2
  obtain ⟨g3, t3, cs3, f3, p3, q3, a3, b3, c3, d3, h4, _⟩ := h3
  obtain ⟨g4, t4, cs4, f4, p4, q4, a4, b4, c4, d4, h5, _⟩ := h4
  obtain ⟨g5, t5, cs5, f5, p5, q5, a5, b5, c5, d5, h6, _⟩ := h5
  obtain ⟨g6, t6, cs6, f6, p6, q6, a6, b6, c6, d6, h7, _⟩ := h6
  intro x hx
  simp only [globPins, GL.tab, GL.ex, GL.shp, List.map_cons, List.map_nil, List.cons_append, List.nil_append, List.append_nil, List.mem_cons, List.not_mem_nil, or_false] at hx
  rcases hx with rfl | rfl | rfl | rfl | rfl | rfl | rfl
  · exact tab_rep (k := .u64) (L := tab_uint64pow10) (show Tryd.prog.globalNamed "internal/strconv.uint64pow10" = some 2 by kernel_rfl) (show (Tryd.prog.globals[2]?).map (·.type) = some 129 by kernel_rfl) Tryd.underlying129 Tryd.underlying82 (by kernel_rfl) ⟨g2, t2, cs2, f2, p2, a2, b2, c2, d2⟩
  · exact tab_rep (k := .u8) (L := tab_deBruijn32tab) (show Tryd.prog.globalNamed "math/bits.deBruijn32tab" = some 6 by kernel_rfl) (show (Tryd.prog.globals[6]?).map (·.type) = some 143 by kernel_rfl) Tryd.underlying143 Tryd.underlying5 (by kernel_rfl) ⟨g0, t0, cs0, f0, p0, a0, b0, c0, d0⟩
  · exact tab_rep (k := .u8) (L := tab_deBruijn64tab) (show Tryd.prog.globalNamed "math/bits.deBruijn64tab" = some 7 by kernel_rfl) (show (Tryd.prog.globals[7]?).map (·.type) = some 144 by kernel_rfl) Tryd.underlying144 Tryd.underlying5 (by kernel_rfl) ⟨g1, t1, cs1, f1, p1, a1, b1, c1, d1⟩
  · exact tab_row (k := .u64) (L := tab_uint64pow10) (show Tryd.prog.globalNamed "internal/strconv.uint64pow10" = some 2 by kernel_rfl) (show (Tryd.prog.globals[2]?).map (·.type) = some 129 by kernel_rfl) Tryd.underlying129 Tryd.underlying82 (by kernel_rfl) (by kernel_rfl) ⟨g2, t2, cs2, f2, p2, a2, b2, c2, d2⟩
  · exact tab_row (k := .u8) (L := tab_deBruijn32tab) (show Tryd.prog.globalNamed "math/bits.deBruijn32tab" = some 6 by kernel_rfl) (show (Tryd.prog.globals[6]?).map (·.type) = some 143 by kernel_rfl) Tryd.underlying143 Tryd.underlying5 (by kernel_rfl) (by kernel_rfl) ⟨g0, t0, cs0, f0, p0, a0, b0, c0, d0⟩
  · exact tab_row (k := .u8) (L := tab_deBruijn64tab) (show Tryd.prog.globalNamed "math/bits.deBruijn64tab" = some 7 by kernel_rfl) (show (Tryd.prog.globals[7]?).map (·.type) = some 144 by kernel_rfl) Tryd.underlying144 Tryd.underlying5 (by kernel_rfl) (by kernel_rfl) ⟨g1, t1, cs1, f1, p1, a1, b1, c1, d1⟩
  · exact shp_rep (cell_of_shapedOpen_int (t := 3) (zero := #[.int .i64 0]) hsh (of_decide_eq_true (by kernel_rfl)) (by kernel_rfl) rfl (by kernel_rfl) (by kernel_rfl) Tryd.underlying3)
set_option maxRecDepth 100000 in
theorem law_lifted (os : Os) (started : os.Started) (H : Type) (enc : TypeId × Value → H) :
    ReturnsInHanded {} Tryd.checked os 5 .any (fun w args => (Rows.fnPlacesSpec.pre enc Tryd.prog Tryd.f5 [] false w args ∧ laidMetH Tryd.prog Rows.fnPlacesRow.laid w) ∧ sizedMet enc Tryd.prog Tryd.f5 (OpenSpec.ofChange Rows.fnPlacesSpec) false w args)
      (Rows.fnPlacesSpec.post enc Tryd.prog Tryd.f5 false true false false) := by
  refine handed_shaped (C := Tryd.checked) (X := fun w _ => laidMetH Tryd.prog Rows.fnPlacesRow.laid w) (fun _ _ _ hh h => h.of_heap hh) ownK started (by kernel_rfl) Tryd.func5
    (ChangeSpec.witness_shaped (enc := enc) (C := Tryd.checked) (os := os) (X := fun w _ => laidMetH Tryd.prog Rows.fnPlacesRow.laid w) false (World.laidAll Tryd.prog os Rows.fnPlacesRow.laid) #[.slice none 0 0, .slice none 0 0] 8 (World.laidAll_os _ _ _) (World.shaped_of_ZipB (by kernel_rfl) (by kernel_rfl)) (by kernel_rfl) (by kernel_rfl) (by kernel_rfl) (by rw [MakeChecks.laidMetH_plain _ _ _ (by kernel_rfl)]; exact laidMet_laidAll _ (by kernel_rfl) (by kernel_rfl))) ?_
  intro W base args ds gs before hval hW hL hsh
  have e : Tryd.f5.params.toList = [22, 22] := by kernel_rfl
  refine law_callsV (C := Tryd.prog) (tb := 4) laidOut (by kernel_rfl) rfl (by kernel_rfl) ?_ ?_ hval hW (globs_met hsh hL) ?_
  · intro t ht
    rw [e] at ht
    simp only [List.mem_cons, List.mem_nil_iff, or_false] at ht
    rcases ht with rfl | rfl
    · exact ⟨by kernel_rfl, of_decide_eq_true (by kernel_rfl), by rw [shape_bytes]; rfl⟩
    · exact ⟨by kernel_rfl, of_decide_eq_true (by kernel_rfl), by rw [shape_bytes]; rfl⟩
  · intro ds gs hds hgs
    match ds, hds, gs, hgs with
    | [_d0, _d1], _, [], _ => exact ⟨rfl, rfl, rfl⟩
  · intro asl has
    rw [e] at has
    obtain ⟨a0, r0, σ0, rfl, hs0, hv0, has1⟩ := has
    rw [shape_bytes] at hs0
    simp only [Option.some.injEq] at hs0
    subst hs0
    obtain ⟨xs0, rfl, hy0⟩ := has_bytesV hv0
    obtain ⟨a1, r1, σ1, rfl, hs1, hv1, rfl⟩ := has1
    rw [shape_bytes] at hs1
    simp only [Option.some.injEq] at hs1
    subst hs1
    obtain ⟨xs1, rfl, hy1⟩ := has_bytesV hv1
    exact den_law xs0 hy0 xs1 hy1
theorem law_holds : Rows.FnPlacesSaid :=
  OpenClaim.holds_of_wide 5 Tryd.f5 rfl rfl rfl rfl rfl rfl rfl ⟨rfl, rfl, rfl, rfl, rfl⟩ rfl rfl rfl rfl rfl (by kernel_rfl) Tryd.func5 (by kernel_rfl)
    (of_decide_eq_true (by kernel_rfl)) (by unfold Func.isWrapper; first | (rw [if_pos (by decide +kernel)]; kernel_rfl) | (rw [if_neg (by decide +kernel)]; exact ⟨rfl, rfl⟩))
    (fun os started H enc _ => law_lifted os started H enc)
theorem card_holds : Rows.FnPlacesCardSaid :=
  Claim7.holds_tied_plain_at .later [] [.data, .data, .data, .data, .sentinel, .sentinel, .pinned] true (true, "a8dab8528bed632b0a047c4662e05bf1098340de7c903b9aab9d93d820d7e36f") true
    law_holds (fun _ h => by cases h) (by kernel_rfl) (fun _ h => by cases h) fnPlaces_row_tie rfl ⟨rfl, rfl⟩ (by kernel_rfl) rfl
    (fun f fn hf hfn => by
      obtain rfl : f = 5 := Option.some.inj ((show Tryd.prog.funcNamed "loop.example/g00925/laws.FnPlaces" = some 5 by kernel_rfl).symm.trans hf) |>.symm
      obtain rfl : fn = Tryd.f5 := (Option.some.inj (Tryd.func5.symm.trans hfn)).symm
      refine ⟨by kernel_rfl, fun j t ht => ?_⟩
      have hmem : t ∈ Tryd.f5.params.toList := by
        have := Array.mem_of_getElem? ht
        simpa using this
      rw [show Tryd.f5.params.toList = [22, 22] by kernel_rfl] at hmem
      simp only [List.mem_cons, List.mem_nil_iff, or_false] at hmem
      rcases hmem with rfl | rfl
      · exact (show Tryd.prog.wantsStandIn 22 = false by kernel_rfl)
      · exact (show Tryd.prog.wantsStandIn 22 = false by kernel_rfl))
    (by kernel_rfl)
end Go.Proofs.YtnmkmbdimijigaaDoor
