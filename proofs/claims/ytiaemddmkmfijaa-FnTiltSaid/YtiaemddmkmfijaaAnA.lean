/-
  OWN WORK: antennas: valid ones; losses at angles, plain.
-/
import Derived.Test.YtiaemddmkmfijaaRdA
namespace Go.Proofs.Ytiaemddmkmfijaa
open Go Go.Own Go.Proofs
set_option maxHeartbeats 4000000
set_option maxRecDepth 20000
set_option linter.unusedSimpArgs false
set_option linter.unusedVariables false
structure An where
  nm : List UInt8
  g : Int
  H : List Int
  V : List Int
abbrev anV (a : An) : AVal := .agg [.t a.nm, .i a.g, ints a.H, ints a.V]
abbrev anP (a : An) : AVal := .iptr [.t a.nm, .i a.g, ints a.H, ints a.V] 0
def LsOk (x : Int) : Prop := 0 ≤ x ∧ x ≤ 60000
structure AnOk (a : An) : Prop where
  nm : NmOk a.nm
  g : -60000 ≤ a.g ∧ a.g ≤ 60000
  lH : a.H.length = 36
  lV : a.V.length = 19
  H : ∀ x ∈ a.H, LsOk x
  V : ∀ x ∈ a.V, LsOk x
  H0 : a.H.getD 0 0 = 0
  V9 : a.V.getD 9 0 = 0
/-- what holds of all that are drawn -/
structure AnB (a : An) : Prop where
  nm : a.nm.length ≤ 1000
  lH : a.H.length ≤ 1000
  lV : a.V.length ≤ 1000
theorem AnOk.b {a : An} (h : AnOk a) : AnB a := ⟨by have := h.nm.1; omega, by have := h.lH; omega, by have := h.lV; omega⟩
theorem cellA {L : List Int} {k : Nat} (h : k < L.length) : (mapC AVal.i L)[k]? = some (.i (L.getD k 0)) := by simp [mapC, List.getD, h]
theorem gdA {L : List Int} {k : Nat} (h : k < L.length) : L.getD k 0 = L[k] := by simp [List.getD, h]
theorem gdM {L : List Int} {k : Nat} (h : k < L.length) : L.getD k 0 ∈ L := by rw [gdA h]; exact List.getElem_mem h
theorem den_gainOkA (x : Int) : Den Try.prog 21 [.i x] (.b (bp (-60000 ≤ x ∧ x ≤ 60000))) := by
  refine den_of_awp Try.func21 rfl (by kernel_rfl) (Nat.le_of_ble_eq_true rfl) (by simp only [treeL, AVal.tree, treeL_i, treeL_ints, treeL_u8, treeL_append, Bool.and_self, Bool.and_true, Bool.true_and]) (by first | rfl | simp only [treeL, AVal.tree, treeL_i, treeL_ints, treeL_u8, treeL_append, Bool.and_self, Bool.and_true, Bool.true_and]) mixed (by kernel_rfl) fun hl => ?_
  simp only [lensL, lens, lensL_i, lensL_mapC, maxI, and_true, true_and] at hl
  rw [Try.ntmps21]
  refine ex_start ?_
  simp (config := { maxSteps := 1000000 }) +decide only [NoH, Old, OldL, nilQ, nilA, asgn, nz, RechL, ReY, isNew, stepO, XPost, postN, XOk, updN, updU, isEff, avalue, aeff, ASt.eval, ASt.put, ASt.set, ASt.new, Nat.reduceDiv, Nat.reduceAdd, Int.reduceToNat, absV, absC, scalar, alen, acap, conc, flats, live, blkOf, aload, rd, part?, afieldAddr, afield, aindexAddr, cellsOf, afill, places, abuild, optI, asliceV, asliceS, szOk, srcCells, aappend, acopy, astore, amakeSlice, abuildSlice, snapL, mapO, treeL, AVal.tree, AVal.flatT, isFlat, ares, isFz, afroz, afrozB, lookupA, lookupH, tops, if_true, if_false, reduceCtorEq, forall_const, ite_true, ite_false, implies_true, walkS, tabS, Try.results21]
  refine callK (den_within x (-60000) 60000) (by first | exact .inl rfl | exact .inr rfl) ?_
  simp (config := { maxSteps := 1000000 }) +decide only [NoH, Old, OldL, nilQ, nilA, asgn, nz, RechL, ReY, isNew, stepO, XPost, postN, XOk, updN, updU, isEff, avalue, aeff, ASt.eval, ASt.put, ASt.set, ASt.new, Nat.reduceDiv, Nat.reduceAdd, Int.reduceToNat, absV, absC, scalar, alen, acap, conc, flats, live, blkOf, aload, rd, part?, afieldAddr, afield, aindexAddr, cellsOf, afill, places, abuild, optI, asliceV, asliceS, szOk, srcCells, aappend, acopy, astore, amakeSlice, abuildSlice, snapL, mapO, treeL, AVal.tree, AVal.flatT, isFlat, ares, isFz, afroz, afrozB, lookupA, lookupH, tops, if_true, if_false, reduceCtorEq, forall_const, ite_true, ite_false, implies_true, walkS, tabS, Try.results21]
theorem den_ValidAntenna (a : An) (hb : AnB a) : Den Try.prog 10 [anV a] (.b (bp (AnOk a))) := by
  have bH := hb.lH
  have bV := hb.lV
  refine den_of_awpG (ghs [] [1]) Try.func10 rfl (by kernel_rfl) (Nat.le_of_ble_eq_true rfl) (by simp only [treeL, AVal.tree, treeL_i, treeL_ints, treeL_u8, treeL_append, Bool.and_self, Bool.and_true, Bool.true_and]) (by first | rfl | simp only [treeL, AVal.tree, treeL_i, treeL_ints, treeL_u8, treeL_append, Bool.and_self, Bool.and_true, Bool.true_and]) mixed (by kernel_rfl) fun hl => ?_
  simp only [lensL, lens, lensL_i, lensL_mapC, maxI, and_true, true_and] at hl
  rw [Try.ntmps10]
  refine ex_start ?_
  simp (config := { maxSteps := 1000000 }) +decide only [NoH, Old, OldL, nilQ, nilA, asgn, nz, RechL, ReY, isNew, stepO, XPost, postN, XOk, updN, updU, isEff, avalue, aeff, ASt.eval, ASt.put, ASt.set, ASt.new, Nat.reduceDiv, Nat.reduceAdd, Int.reduceToNat, absV, absC, scalar, alen, acap, conc, flats, live, blkOf, aload, rd, part?, afieldAddr, afield, aindexAddr, cellsOf, afill, places, abuild, optI, asliceV, asliceS, szOk, srcCells, aappend, acopy, astore, amakeSlice, abuildSlice, snapL, mapO, treeL, AVal.tree, AVal.flatT, isFlat, ares, isFz, afroz, afrozB, lookupA, lookupH, tops, if_true, if_false, reduceCtorEq, forall_const, ite_true, ite_false, implies_true, walkS, tabS, Try.results10]
  refine callK (den_IsName a.nm hb.nm) (by first | exact .inl rfl | exact .inr rfl) ?_
  by_cases c1 : NmOk a.nm
  case neg =>
    have no : ¬ AnOk a := fun h => c1 h.nm
    simp (config := { maxSteps := 1000000 }) +decide only [NoH, Old, OldL, nilQ, nilA, asgn, nz, RechL, ReY, isNew, stepO, XPost, postN, XOk, updN, updU, isEff, avalue, aeff, ASt.eval, ASt.put, ASt.set, ASt.new, Nat.reduceDiv, Nat.reduceAdd, Int.reduceToNat, absV, absC, scalar, alen, acap, conc, flats, live, blkOf, aload, rd, part?, afieldAddr, afield, aindexAddr, cellsOf, afill, places, abuild, optI, asliceV, asliceS, szOk, srcCells, aappend, acopy, astore, amakeSlice, abuildSlice, snapL, mapO, treeL, AVal.tree, AVal.flatT, isFlat, ares, isFz, afroz, afrozB, lookupA, lookupH, tops, if_true, if_false, reduceCtorEq, forall_const, ite_true, ite_false, implies_true, walkS, tabS, Try.results10, eq_false c1, eq_false no]
  simp (config := { maxSteps := 1000000 }) +decide only [NoH, Old, OldL, nilQ, nilA, asgn, nz, RechL, ReY, isNew, stepO, XPost, postN, XOk, updN, updU, isEff, avalue, aeff, ASt.eval, ASt.put, ASt.set, ASt.new, Nat.reduceDiv, Nat.reduceAdd, Int.reduceToNat, absV, absC, scalar, alen, acap, conc, flats, live, blkOf, aload, rd, part?, afieldAddr, afield, aindexAddr, cellsOf, afill, places, abuild, optI, asliceV, asliceS, szOk, srcCells, aappend, acopy, astore, amakeSlice, abuildSlice, snapL, mapO, treeL, AVal.tree, AVal.flatT, isFlat, ares, isFz, afroz, afrozB, lookupA, lookupH, tops, if_true, if_false, reduceCtorEq, forall_const, ite_true, ite_false, implies_true, walkS, tabS, Try.results10, eq_true c1]
  refine callK (den_gainOkA a.g) (by first | exact .inl rfl | exact .inr rfl) ?_
  by_cases c2 : -60000 ≤ a.g ∧ a.g ≤ 60000
  case neg =>
    have no : ¬ AnOk a := fun h => c2 h.g
    simp (config := { maxSteps := 1000000 }) +decide only [NoH, Old, OldL, nilQ, nilA, asgn, nz, RechL, ReY, isNew, stepO, XPost, postN, XOk, updN, updU, isEff, avalue, aeff, ASt.eval, ASt.put, ASt.set, ASt.new, Nat.reduceDiv, Nat.reduceAdd, Int.reduceToNat, absV, absC, scalar, alen, acap, conc, flats, live, blkOf, aload, rd, part?, afieldAddr, afield, aindexAddr, cellsOf, afill, places, abuild, optI, asliceV, asliceS, szOk, srcCells, aappend, acopy, astore, amakeSlice, abuildSlice, snapL, mapO, treeL, AVal.tree, AVal.flatT, isFlat, ares, isFz, afroz, afrozB, lookupA, lookupH, tops, if_true, if_false, reduceCtorEq, forall_const, ite_true, ite_false, implies_true, walkS, tabS, Try.results10, eq_false c2, eq_false no]
  by_cases c3 : a.H.length = 36
  case neg =>
    have no : ¬ AnOk a := fun h => c3 h.lH
    have c3I : ¬ (a.H.length : Int) = 36 := by omega
    simp (config := { maxSteps := 1000000 }) +decide only [NoH, Old, OldL, nilQ, nilA, asgn, nz, RechL, ReY, isNew, stepO, XPost, postN, XOk, updN, updU, isEff, avalue, aeff, ASt.eval, ASt.put, ASt.set, ASt.new, Nat.reduceDiv, Nat.reduceAdd, Int.reduceToNat, absV, absC, scalar, alen, acap, conc, flats, live, blkOf, aload, rd, part?, afieldAddr, afield, aindexAddr, cellsOf, afill, places, abuild, optI, asliceV, asliceS, szOk, srcCells, aappend, acopy, astore, amakeSlice, abuildSlice, snapL, mapO, treeL, AVal.tree, AVal.flatT, isFlat, ares, isFz, afroz, afrozB, lookupA, lookupH, tops, if_true, if_false, reduceCtorEq, forall_const, ite_true, ite_false, implies_true, walkS, tabS, Try.results10, eq_true c2, eq_false c3I, eq_false no]
  have c3I : (a.H.length : Int) = 36 := by omega
  by_cases c4 : a.V.length = 19
  case neg =>
    have no : ¬ AnOk a := fun h => c4 h.lV
    have c4I : ¬ (a.V.length : Int) = 19 := by omega
    simp (config := { maxSteps := 1000000 }) +decide only [NoH, Old, OldL, nilQ, nilA, asgn, nz, RechL, ReY, isNew, stepO, XPost, postN, XOk, updN, updU, isEff, avalue, aeff, ASt.eval, ASt.put, ASt.set, ASt.new, Nat.reduceDiv, Nat.reduceAdd, Int.reduceToNat, absV, absC, scalar, alen, acap, conc, flats, live, blkOf, aload, rd, part?, afieldAddr, afield, aindexAddr, cellsOf, afill, places, abuild, optI, asliceV, asliceS, szOk, srcCells, aappend, acopy, astore, amakeSlice, abuildSlice, snapL, mapO, treeL, AVal.tree, AVal.flatT, isFlat, ares, isFz, afroz, afrozB, lookupA, lookupH, tops, if_true, if_false, reduceCtorEq, forall_const, ite_true, ite_false, implies_true, walkS, tabS, Try.results10, eq_true c2, eq_true c3I, eq_false c4I, eq_false no]
  have c4I : (a.V.length : Int) = 19 := by omega
  simp (config := { maxSteps := 1000000 }) +decide only [NoH, Old, OldL, nilQ, nilA, asgn, nz, RechL, ReY, isNew, stepO, XPost, postN, XOk, updN, updU, isEff, avalue, aeff, ASt.eval, ASt.put, ASt.set, ASt.new, Nat.reduceDiv, Nat.reduceAdd, Int.reduceToNat, absV, absC, scalar, alen, acap, conc, flats, live, blkOf, aload, rd, part?, afieldAddr, afield, aindexAddr, cellsOf, afill, places, abuild, optI, asliceV, asliceS, szOk, srcCells, aappend, acopy, astore, amakeSlice, abuildSlice, snapL, mapO, treeL, AVal.tree, AVal.flatT, isFlat, ares, isFz, afroz, afrozB, lookupA, lookupH, tops, if_true, if_false, reduceCtorEq, forall_const, ite_true, ite_false, implies_true, walkS, tabS, Try.results10, eq_true c2, eq_true c3I, eq_true c4I]
  refine callK (den_allWithin a.H 0 60000) (by first | exact .inl rfl | exact .inr rfl) ?_
  by_cases c5 : ∀ x ∈ a.H, 0 ≤ x ∧ x ≤ 60000
  case neg =>
    have no : ¬ AnOk a := fun h => c5 h.H
    simp (config := { maxSteps := 1000000 }) +decide only [NoH, Old, OldL, nilQ, nilA, asgn, nz, RechL, ReY, isNew, stepO, XPost, postN, XOk, updN, updU, isEff, avalue, aeff, ASt.eval, ASt.put, ASt.set, ASt.new, Nat.reduceDiv, Nat.reduceAdd, Int.reduceToNat, absV, absC, scalar, alen, acap, conc, flats, live, blkOf, aload, rd, part?, afieldAddr, afield, aindexAddr, cellsOf, afill, places, abuild, optI, asliceV, asliceS, szOk, srcCells, aappend, acopy, astore, amakeSlice, abuildSlice, snapL, mapO, treeL, AVal.tree, AVal.flatT, isFlat, ares, isFz, afroz, afrozB, lookupA, lookupH, tops, if_true, if_false, reduceCtorEq, forall_const, ite_true, ite_false, implies_true, walkS, tabS, Try.results10, eq_false c5, eq_false no]
  simp (config := { maxSteps := 1000000 }) +decide only [NoH, Old, OldL, nilQ, nilA, asgn, nz, RechL, ReY, isNew, stepO, XPost, postN, XOk, updN, updU, isEff, avalue, aeff, ASt.eval, ASt.put, ASt.set, ASt.new, Nat.reduceDiv, Nat.reduceAdd, Int.reduceToNat, absV, absC, scalar, alen, acap, conc, flats, live, blkOf, aload, rd, part?, afieldAddr, afield, aindexAddr, cellsOf, afill, places, abuild, optI, asliceV, asliceS, szOk, srcCells, aappend, acopy, astore, amakeSlice, abuildSlice, snapL, mapO, treeL, AVal.tree, AVal.flatT, isFlat, ares, isFz, afroz, afrozB, lookupA, lookupH, tops, if_true, if_false, reduceCtorEq, forall_const, ite_true, ite_false, implies_true, walkS, tabS, Try.results10, eq_true c5]
  refine callK (den_allWithin a.V 0 60000) (by first | exact .inl rfl | exact .inr rfl) ?_
  by_cases c6 : ∀ x ∈ a.V, 0 ≤ x ∧ x ≤ 60000
  case neg =>
    have no : ¬ AnOk a := fun h => c6 h.V
    simp (config := { maxSteps := 1000000 }) +decide only [NoH, Old, OldL, nilQ, nilA, asgn, nz, RechL, ReY, isNew, stepO, XPost, postN, XOk, updN, updU, isEff, avalue, aeff, ASt.eval, ASt.put, ASt.set, ASt.new, Nat.reduceDiv, Nat.reduceAdd, Int.reduceToNat, absV, absC, scalar, alen, acap, conc, flats, live, blkOf, aload, rd, part?, afieldAddr, afield, aindexAddr, cellsOf, afill, places, abuild, optI, asliceV, asliceS, szOk, srcCells, aappend, acopy, astore, amakeSlice, abuildSlice, snapL, mapO, treeL, AVal.tree, AVal.flatT, isFlat, ares, isFz, afroz, afrozB, lookupA, lookupH, tops, if_true, if_false, reduceCtorEq, forall_const, ite_true, ite_false, implies_true, walkS, tabS, Try.results10, eq_false c6, eq_false no]
  have h0 : 0 < a.H.length := by omega
  have h9 : 9 < a.V.length := by omega
  have h0I : (0 : Int) < (a.H.length : Int) := by omega
  have h9I : (9 : Int) < (a.V.length : Int) := by omega
  have k0 := cellA h0
  have k9 := cellA h9
  by_cases c7 : a.H.getD 0 0 = 0
  case neg =>
    have no : ¬ AnOk a := fun h => c7 h.H0
    simp (config := { maxSteps := 1000000 }) +decide only [NoH, Old, OldL, nilQ, nilA, asgn, nz, RechL, ReY, isNew, stepO, XPost, postN, XOk, updN, updU, isEff, avalue, aeff, ASt.eval, ASt.put, ASt.set, ASt.new, Nat.reduceDiv, Nat.reduceAdd, Int.reduceToNat, absV, absC, scalar, alen, acap, conc, flats, live, blkOf, aload, rd, part?, afieldAddr, afield, aindexAddr, cellsOf, afill, places, abuild, optI, asliceV, asliceS, szOk, srcCells, aappend, acopy, astore, amakeSlice, abuildSlice, snapL, mapO, treeL, AVal.tree, AVal.flatT, isFlat, ares, isFz, afroz, afrozB, lookupA, lookupH, tops, if_true, if_false, reduceCtorEq, forall_const, ite_true, ite_false, implies_true, walkS, tabS, Try.results10, eq_true c6, h0, h0I, k0, eq_false c7, eq_false no]
  by_cases c8 : a.V.getD 9 0 = 0
  case neg =>
    have no : ¬ AnOk a := fun h => c8 h.V9
    simp (config := { maxSteps := 1000000 }) +decide only [NoH, Old, OldL, nilQ, nilA, asgn, nz, RechL, ReY, isNew, stepO, XPost, postN, XOk, updN, updU, isEff, avalue, aeff, ASt.eval, ASt.put, ASt.set, ASt.new, Nat.reduceDiv, Nat.reduceAdd, Int.reduceToNat, absV, absC, scalar, alen, acap, conc, flats, live, blkOf, aload, rd, part?, afieldAddr, afield, aindexAddr, cellsOf, afill, places, abuild, optI, asliceV, asliceS, szOk, srcCells, aappend, acopy, astore, amakeSlice, abuildSlice, snapL, mapO, treeL, AVal.tree, AVal.flatT, isFlat, ares, isFz, afroz, afrozB, lookupA, lookupH, tops, if_true, if_false, reduceCtorEq, forall_const, ite_true, ite_false, implies_true, walkS, tabS, Try.results10, eq_true c6, h0, h0I, k0, c7, h9, h9I, k9, eq_false c8, eq_false no]
  have yes : AnOk a := ⟨c1, c2, c3, c4, c5, c6, c7, c8⟩
  simp (config := { maxSteps := 1000000 }) +decide only [NoH, Old, OldL, nilQ, nilA, asgn, nz, RechL, ReY, isNew, stepO, XPost, postN, XOk, updN, updU, isEff, avalue, aeff, ASt.eval, ASt.put, ASt.set, ASt.new, Nat.reduceDiv, Nat.reduceAdd, Int.reduceToNat, absV, absC, scalar, alen, acap, conc, flats, live, blkOf, aload, rd, part?, afieldAddr, afield, aindexAddr, cellsOf, afill, places, abuild, optI, asliceV, asliceS, szOk, srcCells, aappend, acopy, astore, amakeSlice, abuildSlice, snapL, mapO, treeL, AVal.tree, AVal.flatT, isFlat, ares, isFz, afroz, afrozB, lookupA, lookupH, tops, if_true, if_false, reduceCtorEq, forall_const, ite_true, ite_false, implies_true, walkS, tabS, Try.results10, eq_true c6, h0, h0I, k0, c7, h9, h9I, k9, c8, eq_true yes]
/-- a loss between two others -/
def mxV (l m u : Int) : Int := (l * (10 - u) + m * u + 5) / 10
theorem mx_bd {l m u : Int} (hl : LsOk l) (hm : LsOk m) (hu : 0 ≤ u ∧ u ≤ 9) : (0 ≤ l * (10 - u) ∧ l * (10 - u) ≤ 60000 * (10 - u)) ∧ 0 ≤ m * u ∧ m * u ≤ 60000 * u :=
  ⟨⟨Int.mul_nonneg hl.1 (by omega), Int.mul_le_mul_of_nonneg_right hl.2 (by omega)⟩, Int.mul_nonneg hm.1 hu.1, Int.mul_le_mul_of_nonneg_right hm.2 hu.1⟩
theorem mxV_in {l m u : Int} (hl : LsOk l) (hm : LsOk m) (hu : 0 ≤ u ∧ u ≤ 9) : LsOk (mxV l m u) := by
  have := mx_bd hl hm hu
  unfold mxV LsOk
  omega
theorem mxV_0 (l m : Int) : mxV l m 0 = l := by unfold mxV; omega
theorem mxV_rev (l m u : Int) : mxV l m u = mxV m l (10 - u) := by
  unfold mxV
  congr 1
  grind
theorem den_mixedLoss {l m u : Int} (hl0 : LsOk l) (hm : LsOk m) (hu : 0 ≤ u ∧ u ≤ 9) : Den Try.prog 30 [.i l, .i m, .i u] (.i (mxV l m u)) := by
  obtain ⟨⟨a1, a2⟩, b1, b2⟩ := mx_bd hl0 hm hu
  have w1 : IntKind.i64.wrap (10 - u) = 10 - u := wrap64 (by omega) (by omega)
  have w2 : IntKind.i64.wrap (l * (10 - u)) = l * (10 - u) := wrap64 (by omega) (by omega)
  have w3 : IntKind.i64.wrap (m * u) = m * u := wrap64 (by omega) (by omega)
  have w4 : IntKind.i64.wrap (l * (10 - u) + m * u) = l * (10 - u) + m * u := wrap64 (by omega) (by omega)
  have w5 : IntKind.i64.wrap (l * (10 - u) + m * u + 5) = l * (10 - u) + m * u + 5 := wrap64 (by omega) (by omega)
  have q : (l * (10 - u) + m * u + 5).tdiv 10 = mxV l m u := Int.tdiv_eq_ediv_of_nonneg (by omega)
  have i := mxV_in hl0 hm hu
  have w6 : IntKind.i64.wrap (mxV l m u) = mxV l m u := wrap64 (by have := i.1; omega) (by have := i.2; omega)
  refine den_of_awp Try.func30 rfl (by kernel_rfl) (Nat.le_of_ble_eq_true rfl) (by simp only [treeL, AVal.tree, treeL_i, treeL_ints, treeL_u8, treeL_append, Bool.and_self, Bool.and_true, Bool.true_and]) (by first | rfl | simp only [treeL, AVal.tree, treeL_i, treeL_ints, treeL_u8, treeL_append, Bool.and_self, Bool.and_true, Bool.true_and]) mixed (by kernel_rfl) fun hl => ?_
  simp only [lensL, lens, lensL_i, lensL_mapC, maxI, and_true, true_and] at hl
  rw [Try.ntmps30]
  refine ex_start ?_
  simp (config := { maxSteps := 1000000 }) +decide only [NoH, Old, OldL, nilQ, nilA, asgn, nz, RechL, ReY, isNew, stepO, XPost, postN, XOk, updN, updU, isEff, avalue, aeff, ASt.eval, ASt.put, ASt.set, ASt.new, Nat.reduceDiv, Nat.reduceAdd, Int.reduceToNat, absV, absC, scalar, alen, acap, conc, flats, live, blkOf, aload, rd, part?, afieldAddr, afield, aindexAddr, cellsOf, afill, places, abuild, optI, asliceV, asliceS, szOk, srcCells, aappend, acopy, astore, amakeSlice, abuildSlice, snapL, mapO, treeL, AVal.tree, AVal.flatT, isFlat, ares, isFz, afroz, afrozB, lookupA, lookupH, tops, if_true, if_false, reduceCtorEq, forall_const, ite_true, ite_false, implies_true, walkS, tabS, Try.results30, sem_quo, w1, w2, w3, w4, w5, q, w6]
/-- a direction from 0 to 359 -/
theorem deg_of (d : Int) : (d.tmod 360 + 360).tmod 360 = d % 360 := by
  have h : ∀ x : Int, x.tmod 360 = if 0 ≤ x then x % 360 else -((-x) % 360) := fun x => by
    split
    · rename_i h
      exact Int.tmod_eq_emod_of_nonneg h
    · have e : x = -(-x) := by omega
      rw [e, Int.neg_tmod, Int.tmod_eq_emod_of_nonneg (by omega)]
      omega
  rw [h, h]
  split <;> split <;> omega
/-- the loss at a direction -/
def hoV (H : List Int) (d : Int) : Int := mxV (H.getD (d % 360 / 10).toNat 0) (H.getD ((d % 360 / 10 + 1) % 36).toNat 0) (d % 360 % 10)
theorem ho_at {H : List Int} (lH : H.length = 36) (d : Int) : (d % 360 / 10).toNat < H.length ∧ ((d % 360 / 10 + 1) % 36).toNat < H.length := by omega
theorem hoV_in {H : List Int} (lH : H.length = 36) (hH : ∀ x ∈ H, LsOk x) (d : Int) : LsOk (hoV H d) := by
  obtain ⟨a, b⟩ := ho_at lH d
  exact mxV_in (hH _ (gdM a)) (hH _ (gdM b)) (by omega)
theorem hoV_turn (H : List Int) (d : Int) : hoV H (d + 360) = hoV H d := by
  unfold hoV
  rw [show (d + 360) % 360 = d % 360 by omega]
theorem den_horizontal {a : An} (h : AnOk a) (d : Int) : Den Try.prog 23 [anV a, .i d] (.i (hoV a.H d)) := by
  obtain ⟨p, q⟩ := ho_at h.lH d
  have lH := h.lH
  have t0 : (d.tmod 360) = (d.tmod 360) := rfl
  have b1 : -360 < d.tmod 360 ∧ d.tmod 360 < 360 := by
    have a1 := Int.tmod_lt_of_pos d (show (0 : Int) < 360 by omega)
    by_cases hn : 0 ≤ d
    · have a2 := Int.tmod_nonneg 360 hn
      omega
    · have a3 := Int.tmod_nonneg (a := -d) 360 (by omega)
      have a4 := Int.tmod_lt_of_pos (-d) (show (0 : Int) < 360 by omega)
      rw [Int.neg_tmod] at a3 a4
      omega
  have w0 : IntKind.i64.wrap (d.tmod 360) = d.tmod 360 := wrap64 (by omega) (by omega)
  have w1 : IntKind.i64.wrap (d.tmod 360 + 360) = d.tmod 360 + 360 := wrap64 (by omega) (by omega)
  have e := deg_of d
  have e0 : 0 ≤ d % 360 ∧ d % 360 < 360 := by omega
  have hE := hoV_in h.lH h.H d
  have d1 := den_mixedLoss (h.H _ (gdM p)) (h.H _ (gdM q)) (show 0 ≤ d % 360 % 10 ∧ d % 360 % 10 ≤ 9 by omega)
  have k1 := cellA p
  have k2 := cellA q
  have ev : mxV (a.H.getD (d % 360 / 10).toNat 0) (a.H.getD ((d % 360 / 10 + 1) % 36).toNat 0) (d % 360 % 10) = hoV a.H d := rfl
  rw [ev] at d1
  generalize hoV a.H d = R at *
  generalize d % 360 = D at *
  obtain ⟨i, hi, hi2⟩ : ∃ i : Nat, D / 10 = i ∧ i < 36 := ⟨(D / 10).toNat, by omega, by omega⟩
  obtain ⟨j, hj, hj2⟩ : ∃ j : Nat, (D / 10 + 1) % 36 = j ∧ j < 36 := ⟨((D / 10 + 1) % 36).toNat, by omega, by omega⟩
  have q1 : D.tdiv 10 = (i : Int) := by rw [Int.tdiv_eq_ediv_of_nonneg (by omega)]; exact hi
  have w2 : IntKind.i64.wrap (i : Int) = (i : Int) := wrap64 (by omega) (by omega)
  have w3 : IntKind.i64.wrap ((i : Int) + 1) = (i : Int) + 1 := wrap64 (by omega) (by omega)
  have q2 : ((i : Int) + 1).tmod 36 = (j : Int) := by rw [Int.tmod_eq_emod_of_nonneg (by omega), ← hi]; exact hj
  have q3 : D.tmod 10 = D % 10 := Int.tmod_eq_emod_of_nonneg (by omega)
  rw [hj, Int.toNat_natCast] at q k2 d1
  rw [hi, Int.toNat_natCast] at p k1 d1
  have iI : (i : Int) < (a.H.length : Int) := by omega
  have jI : (j : Int) < (a.H.length : Int) := by omega
  have w4 : IntKind.i64.wrap (j : Int) = (j : Int) := wrap64 (by omega) (by omega)
  have w5 : IntKind.i64.wrap (D % 10) = D % 10 := wrap64 (by omega) (by omega)
  refine den_of_awpG (ghs [] [2]) Try.func23 rfl (by kernel_rfl) (Nat.le_of_ble_eq_true rfl) (by simp only [treeL, AVal.tree, treeL_i, treeL_ints, treeL_u8, treeL_append, Bool.and_self, Bool.and_true, Bool.true_and]) (by first | rfl | simp only [treeL, AVal.tree, treeL_i, treeL_ints, treeL_u8, treeL_append, Bool.and_self, Bool.and_true, Bool.true_and]) mixed (by kernel_rfl) fun hl => ?_
  simp only [lensL, lens, lensL_i, lensL_mapC, maxI, and_true, true_and] at hl
  rw [Try.ntmps23]
  refine ex_start ?_
  simp (config := { maxSteps := 1000000 }) +decide only [NoH, Old, OldL, nilQ, nilA, asgn, nz, RechL, ReY, isNew, stepO, XPost, postN, XOk, updN, updU, isEff, avalue, aeff, ASt.eval, ASt.put, ASt.set, ASt.new, Nat.reduceDiv, Nat.reduceAdd, Int.reduceToNat, absV, absC, scalar, alen, acap, conc, flats, live, blkOf, aload, rd, part?, afieldAddr, afield, aindexAddr, cellsOf, afill, places, abuild, optI, asliceV, asliceS, szOk, srcCells, aappend, acopy, astore, amakeSlice, abuildSlice, snapL, mapO, treeL, AVal.tree, AVal.flatT, isFlat, ares, isFz, afroz, afrozB, lookupA, lookupH, tops, if_true, if_false, reduceCtorEq, forall_const, ite_true, ite_false, implies_true, walkS, tabS, Try.results23, sem_rem, sem_quo, w0, w1, e, q1, w2, w3, q2, q3, w4, w5, p, q, iI, jI, k1, k2]
  refine callK (d1) (by first | exact .inl rfl | exact .inr rfl) ?_
  simp (config := { maxSteps := 1000000 }) +decide only [NoH, Old, OldL, nilQ, nilA, asgn, nz, RechL, ReY, isNew, stepO, XPost, postN, XOk, updN, updU, isEff, avalue, aeff, ASt.eval, ASt.put, ASt.set, ASt.new, Nat.reduceDiv, Nat.reduceAdd, Int.reduceToNat, absV, absC, scalar, alen, acap, conc, flats, live, blkOf, aload, rd, part?, afieldAddr, afield, aindexAddr, cellsOf, afill, places, abuild, optI, asliceV, asliceS, szOk, srcCells, aappend, acopy, astore, amakeSlice, abuildSlice, snapL, mapO, treeL, AVal.tree, AVal.flatT, isFlat, ares, isFz, afroz, afrozB, lookupA, lookupH, tops, if_true, if_false, reduceCtorEq, forall_const, ite_true, ite_false, implies_true, walkS, tabS, Try.results23]
theorem den_HorizontalLoss {a : An} (h : AnOk a) (d : Int) : Den Try.prog 11 [anV a, .i d] (.tup [.i (hoV a.H d), .i 0]) := by
  refine den_of_awpG (ghs [] [2]) Try.func11 rfl (by kernel_rfl) (Nat.le_of_ble_eq_true rfl) (by simp only [treeL, AVal.tree, treeL_i, treeL_ints, treeL_u8, treeL_append, Bool.and_self, Bool.and_true, Bool.true_and]) (by first | rfl | simp only [treeL, AVal.tree, treeL_i, treeL_ints, treeL_u8, treeL_append, Bool.and_self, Bool.and_true, Bool.true_and]) mixed (by kernel_rfl) fun hl => ?_
  simp only [lensL, lens, lensL_i, lensL_mapC, maxI, and_true, true_and] at hl
  rw [Try.ntmps11]
  refine ex_start ?_
  simp (config := { maxSteps := 1000000 }) +decide only [NoH, Old, OldL, nilQ, nilA, asgn, nz, RechL, ReY, isNew, stepO, XPost, postN, XOk, updN, updU, isEff, avalue, aeff, ASt.eval, ASt.put, ASt.set, ASt.new, Nat.reduceDiv, Nat.reduceAdd, Int.reduceToNat, absV, absC, scalar, alen, acap, conc, flats, live, blkOf, aload, rd, part?, afieldAddr, afield, aindexAddr, cellsOf, afill, places, abuild, optI, asliceV, asliceS, szOk, srcCells, aappend, acopy, astore, amakeSlice, abuildSlice, snapL, mapO, treeL, AVal.tree, AVal.flatT, isFlat, ares, isFz, afroz, afrozB, lookupA, lookupH, tops, if_true, if_false, reduceCtorEq, forall_const, ite_true, ite_false, implies_true, walkS, tabS, Try.results11]
  refine callK (den_ValidAntenna a h.b) (by first | exact .inl rfl | exact .inr rfl) ?_
  simp (config := { maxSteps := 1000000 }) +decide only [NoH, Old, OldL, nilQ, nilA, asgn, nz, RechL, ReY, isNew, stepO, XPost, postN, XOk, updN, updU, isEff, avalue, aeff, ASt.eval, ASt.put, ASt.set, ASt.new, Nat.reduceDiv, Nat.reduceAdd, Int.reduceToNat, absV, absC, scalar, alen, acap, conc, flats, live, blkOf, aload, rd, part?, afieldAddr, afield, aindexAddr, cellsOf, afill, places, abuild, optI, asliceV, asliceS, szOk, srcCells, aappend, acopy, astore, amakeSlice, abuildSlice, snapL, mapO, treeL, AVal.tree, AVal.flatT, isFlat, ares, isFz, afroz, afrozB, lookupA, lookupH, tops, if_true, if_false, reduceCtorEq, forall_const, ite_true, ite_false, implies_true, walkS, tabS, Try.results11, eq_true h]
  refine callK (den_horizontal h d) (by first | exact .inl rfl | exact .inr rfl) ?_
  simp (config := { maxSteps := 1000000 }) +decide only [NoH, Old, OldL, nilQ, nilA, asgn, nz, RechL, ReY, isNew, stepO, XPost, postN, XOk, updN, updU, isEff, avalue, aeff, ASt.eval, ASt.put, ASt.set, ASt.new, Nat.reduceDiv, Nat.reduceAdd, Int.reduceToNat, absV, absC, scalar, alen, acap, conc, flats, live, blkOf, aload, rd, part?, afieldAddr, afield, aindexAddr, cellsOf, afill, places, abuild, optI, asliceV, asliceS, szOk, srcCells, aappend, acopy, astore, amakeSlice, abuildSlice, snapL, mapO, treeL, AVal.tree, AVal.flatT, isFlat, ares, isFz, afroz, afrozB, lookupA, lookupH, tops, if_true, if_false, reduceCtorEq, forall_const, ite_true, ite_false, implies_true, walkS, tabS, Try.results11]
theorem den_l06Gain (x : Int) : Den Try.prog 39 [.i x] (.b (bp (-60000 ≤ x ∧ x ≤ 60000))) := by
  refine den_of_awp Try.func39 rfl (by kernel_rfl) (Nat.le_of_ble_eq_true rfl) (by simp only [treeL, AVal.tree, treeL_i, treeL_ints, treeL_u8, treeL_append, Bool.and_self, Bool.and_true, Bool.true_and]) (by first | rfl | simp only [treeL, AVal.tree, treeL_i, treeL_ints, treeL_u8, treeL_append, Bool.and_self, Bool.and_true, Bool.true_and]) mixed (by kernel_rfl) fun hl => ?_
  simp only [lensL, lens, lensL_i, lensL_mapC, maxI, and_true, true_and] at hl
  rw [Try.ntmps39]
  refine ex_start ?_
  simp (config := { maxSteps := 1000000 }) +decide only [NoH, Old, OldL, nilQ, nilA, asgn, nz, RechL, ReY, isNew, stepO, XPost, postN, XOk, updN, updU, isEff, avalue, aeff, ASt.eval, ASt.put, ASt.set, ASt.new, Nat.reduceDiv, Nat.reduceAdd, Int.reduceToNat, absV, absC, scalar, alen, acap, conc, flats, live, blkOf, aload, rd, part?, afieldAddr, afield, aindexAddr, cellsOf, afill, places, abuild, optI, asliceV, asliceS, szOk, srcCells, aappend, acopy, astore, amakeSlice, abuildSlice, snapL, mapO, treeL, AVal.tree, AVal.flatT, isFlat, ares, isFz, afroz, afrozB, lookupA, lookupH, tops, if_true, if_false, reduceCtorEq, forall_const, ite_true, ite_false, implies_true, walkS, tabS, Try.results39]
  refine callK (den_l00In x (-60000) 60000) (by first | exact .inl rfl | exact .inr rfl) ?_
  simp (config := { maxSteps := 1000000 }) +decide only [NoH, Old, OldL, nilQ, nilA, asgn, nz, RechL, ReY, isNew, stepO, XPost, postN, XOk, updN, updU, isEff, avalue, aeff, ASt.eval, ASt.put, ASt.set, ASt.new, Nat.reduceDiv, Nat.reduceAdd, Int.reduceToNat, absV, absC, scalar, alen, acap, conc, flats, live, blkOf, aload, rd, part?, afieldAddr, afield, aindexAddr, cellsOf, afill, places, abuild, optI, asliceV, asliceS, szOk, srcCells, aappend, acopy, astore, amakeSlice, abuildSlice, snapL, mapO, treeL, AVal.tree, AVal.flatT, isFlat, ares, isFz, afroz, afrozB, lookupA, lookupH, tops, if_true, if_false, reduceCtorEq, forall_const, ite_true, ite_false, implies_true, walkS, tabS, Try.results39]
end Go.Proofs.Ytiaemddmkmfijaa
