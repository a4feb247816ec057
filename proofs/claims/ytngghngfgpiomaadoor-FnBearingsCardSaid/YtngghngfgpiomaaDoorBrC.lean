/-
  OWN WORK: sines, bearings, angles, steps: the program's side.
-/
import Derived.Test.YtngghngfgpiomaaDoorBrB
import Derived.Test.YtngghngfgpiomaaDoorRt
namespace Go.Proofs.YtngghngfgpiomaaDoor
open Go Go.Own Go.Proofs
set_option maxHeartbeats 4000000
set_option maxRecDepth 20000
set_option linter.unusedSimpArgs false
theorem den_abs (n : Int) (h1 : -9223372036854775807 ≤ n) (h2 : n ≤ 9223372036854775807) : Den Tryd.prog 21 [.i n] (.i (ab n)) := by
  refine den_of_awp Tryd.func21 rfl (by kernel_rfl) (Nat.le_of_ble_eq_true rfl) (by simp only [treeL, AVal.tree, treeL_i, treeL_ints, treeL_u8, treeL_append, Bool.and_self, Bool.and_true, Bool.true_and]) (by first | rfl | simp only [treeL, AVal.tree, treeL_i, treeL_ints, treeL_u8, treeL_append, Bool.and_self, Bool.and_true, Bool.true_and]) mixed (by kernel_rfl) fun hl => ?_
  simp only [lensL, lens, lensL_i, lensL_mapC, maxI, and_true, true_and] at hl
  rw [Tryd.ntmps21]
  refine ex_start ?_
  have hw : IntKind.i64.wrap (0 - n) = -n := (wrap64 (by omega) (by omega)).trans (by omega)
  have e : (if -n > n then -n else n) = ab n := by unfold ab; split <;> split <;> omega
  simp (config := { maxSteps := 1000000 }) +decide only [NoH, Old, OldL, nilQ, nilA, RechL, ReY, isNew, stepO, XPost, postN, XOk, updN, updU, isEff, avalue, aeff, ASt.eval, ASt.put, ASt.set, ASt.new, Nat.reduceDiv, Nat.reduceAdd, Int.reduceToNat, absV, absC, scalar, alen, acap, conc, flats, live, blkOf, aload, rd, part?, afieldAddr, afield, aindexAddr, cellsOf, afill, places, abuild, optI, asliceV, asliceS, szOk, srcCells, aappend, astore, amakeSlice, abuildSlice, snapL, mapO, treeL, AVal.tree, AVal.flatT, isFlat, ares, isFz, afroz, afrozB, lookupA, lookupH, tops, if_true, if_false, reduceCtorEq, forall_const, ite_true, ite_false, implies_true, walkS, tabS, Tryd.results21, hw, sem_max, e]
theorem tab_len : tab_sineTable.length = 91 := rfl
theorem tab_get {k : Nat} (h : k < tab_sineTable.length) : gl_sineTable[k]? = some (AVal.i tab_sineTable[k]) := by
  unfold gl_sineTable mapC
  rw [List.getElem?_map, List.getElem?_eq_getElem h]
  rfl
theorem den_sineLow (d : Nat) (h : d < 180) : Den Tryd.prog 11 [.i d] (.i (snN d)) := by
  have e1 : ((d : Int)).tmod 360 = d := Int.tmod_eq_of_lt (by omega) (by omega)
  have hw1 : IntKind.i64.wrap ((d : Int) + 360) = ((d + 360 : Nat) : Int) := wrap64 (by omega) (by omega)
  have e2 : (((d + 360 : Nat) : Int)).tmod 360 = d := by
    rw [Int.tmod_eq_emod_of_nonneg (by omega)]
    omega
  have h180 : ¬ (180 : Int) ≤ (d : Int) := by omega
  by_cases h90 : (90 : Int) < (d : Int)
  · have hw2 : IntKind.i64.wrap (180 - (d : Int)) = ((180 - d : Nat) : Int) := (wrap64 (by omega) (by omega)).trans (by omega)
    have hl1 : 180 - d < 91 := by omega
    have hl2 : 180 - d < tab_sineTable.length := hl1
    have ev : snN d = tab_sineTable[180 - d] := by
      unfold snN
      rw [if_neg (by omega), if_pos h]
      simp [List.getD, hl2]
    rw [ev]
    refine den_of_awp Tryd.func11 rfl (by kernel_rfl) (Nat.le_of_ble_eq_true rfl) (by simp only [treeL, AVal.tree, treeL_i, treeL_ints, treeL_u8, treeL_append, Bool.and_self, Bool.and_true, Bool.true_and]) (by first | rfl | simp only [treeL, AVal.tree, treeL_i, treeL_ints, treeL_u8, treeL_append, Bool.and_self, Bool.and_true, Bool.true_and]) mixed (by kernel_rfl) fun hl => ?_
    simp only [lensL, lens, lensL_i, lensL_mapC, maxI, and_true, true_and] at hl
    rw [Tryd.ntmps11]
    refine ex_start ?_
    simp (config := { maxSteps := 1000000 }) +decide only [NoH, Old, OldL, nilQ, nilA, RechL, ReY, isNew, stepO, XPost, postN, XOk, updN, updU, isEff, avalue, aeff, ASt.eval, ASt.put, ASt.set, ASt.new, Nat.reduceDiv, Nat.reduceAdd, Int.reduceToNat, absV, absC, scalar, alen, acap, conc, flats, live, blkOf, aload, rd, part?, afieldAddr, afield, aindexAddr, cellsOf, afill, places, abuild, optI, asliceV, asliceS, szOk, srcCells, aappend, astore, amakeSlice, abuildSlice, snapL, mapO, treeL, AVal.tree, AVal.flatT, isFlat, ares, isFz, afroz, afrozB, lookupA, lookupH, tops, if_true, if_false, reduceCtorEq, forall_const, ite_true, ite_false, implies_true, walkS, tabS, Tryd.results11, e1, hw1, e2, sem_rem, eq_false h180, eq_true h90, hw2, hl1, tab_get hl2]
  · have hl1 : d < 91 := by omega
    have hl2 : d < tab_sineTable.length := hl1
    have ev : snN d = tab_sineTable[d] := by
      unfold snN
      rw [if_pos (by omega)]
      simp [List.getD, hl2]
    rw [ev]
    refine den_of_awp Tryd.func11 rfl (by kernel_rfl) (Nat.le_of_ble_eq_true rfl) (by simp only [treeL, AVal.tree, treeL_i, treeL_ints, treeL_u8, treeL_append, Bool.and_self, Bool.and_true, Bool.true_and]) (by first | rfl | simp only [treeL, AVal.tree, treeL_i, treeL_ints, treeL_u8, treeL_append, Bool.and_self, Bool.and_true, Bool.true_and]) mixed (by kernel_rfl) fun hl => ?_
    simp only [lensL, lens, lensL_i, lensL_mapC, maxI, and_true, true_and] at hl
    rw [Tryd.ntmps11]
    refine ex_start ?_
    simp (config := { maxSteps := 1000000 }) +decide only [NoH, Old, OldL, nilQ, nilA, RechL, ReY, isNew, stepO, XPost, postN, XOk, updN, updU, isEff, avalue, aeff, ASt.eval, ASt.put, ASt.set, ASt.new, Nat.reduceDiv, Nat.reduceAdd, Int.reduceToNat, absV, absC, scalar, alen, acap, conc, flats, live, blkOf, aload, rd, part?, afieldAddr, afield, aindexAddr, cellsOf, afill, places, abuild, optI, asliceV, asliceS, szOk, srcCells, aappend, astore, amakeSlice, abuildSlice, snapL, mapO, treeL, AVal.tree, AVal.flatT, isFlat, ares, isFz, afroz, afrozB, lookupA, lookupH, tops, if_true, if_false, reduceCtorEq, forall_const, ite_true, ite_false, implies_true, walkS, tabS, Tryd.results11, e1, hw1, e2, sem_rem, eq_false h180, eq_false h90, hl1, tab_get hl2]
/-- the sine of a number of degrees -/
def dg (d : Int) : Nat := (d % 360).toNat
def sn (d : Int) : Int := snN (dg d)
theorem dg_lt (d : Int) : dg d < 360 := by unfold dg; omega
theorem sn_in (d : Int) : -1000000 ≤ sn d ∧ sn d ≤ 1000000 := (one_of (dg_lt d)).bnd
theorem sn_half (d : Int) : sn (d + 180) = -sn d := by
  have := (one_of (dg_lt d)).half
  unfold sn
  rw [← this]
  congr 1
  unfold dg
  omega
def cs8 (d : Int) : Int := sn (d + 90)
theorem eX_dg (d : Int) : eX (dg d) = sn d := by
  unfold eX sn
  congr 1
  unfold dg
  omega
theorem eY_dg (d : Int) : eY (dg d) = cs8 d := by
  unfold eY cs8 sn
  congr 1
  unfold dg
  omega
theorem den_sine (d : Int) : Den Tryd.prog 11 [.i d] (.i (sn d)) := by
  have e1 := tm_tmod d
  have hb : -360 < tm d ∧ tm d < 360 := by unfold tm; split <;> omega
  have hw1 : IntKind.i64.wrap (tm d + 360) = tm d + 360 := wrap64 (by omega) (by omega)
  have hd := dg_lt d
  have e2 : (tm d + 360).tmod 360 = (dg d : Int) := by
    rw [Int.tmod_eq_emod_of_nonneg (by omega)]
    unfold dg tm
    split <;> omega
  unfold sn
  generalize dg d = m at hd e2 ⊢
  by_cases h180 : (180 : Int) ≤ (m : Int)
  · have hw2 : IntKind.i64.wrap ((m : Int) - 180) = ((m - 180 : Nat) : Int) := (wrap64 (by omega) (by omega)).trans (by omega)
    have ev : snN m = -snN (m - 180) := by
      have := (one_of (x := m - 180) (by omega)).half
      rw [← this]
      congr 1
      omega
    have hbn := (one_of (x := m - 180) (by omega)).bnd
    have hw3 : IntKind.i64.wrap (0 - snN (m - 180)) = -snN (m - 180) := (wrap64 (by omega) (by omega)).trans (by omega)
    rw [ev]
    refine den_of_awp Tryd.func11 rfl (by kernel_rfl) (Nat.le_of_ble_eq_true rfl) (by simp only [treeL, AVal.tree, treeL_i, treeL_ints, treeL_u8, treeL_append, Bool.and_self, Bool.and_true, Bool.true_and]) (by first | rfl | simp only [treeL, AVal.tree, treeL_i, treeL_ints, treeL_u8, treeL_append, Bool.and_self, Bool.and_true, Bool.true_and]) mixed (by kernel_rfl) fun hl => ?_
    simp only [lensL, lens, lensL_i, lensL_mapC, maxI, and_true, true_and] at hl
    rw [Tryd.ntmps11]
    refine ex_start ?_
    simp (config := { maxSteps := 1000000 }) +decide only [NoH, Old, OldL, nilQ, nilA, RechL, ReY, isNew, stepO, XPost, postN, XOk, updN, updU, isEff, avalue, aeff, ASt.eval, ASt.put, ASt.set, ASt.new, Nat.reduceDiv, Nat.reduceAdd, Int.reduceToNat, absV, absC, scalar, alen, acap, conc, flats, live, blkOf, aload, rd, part?, afieldAddr, afield, aindexAddr, cellsOf, afill, places, abuild, optI, asliceV, asliceS, szOk, srcCells, aappend, astore, amakeSlice, abuildSlice, snapL, mapO, treeL, AVal.tree, AVal.flatT, isFlat, ares, isFz, afroz, afrozB, lookupA, lookupH, tops, if_true, if_false, reduceCtorEq, forall_const, ite_true, ite_false, implies_true, walkS, tabS, Tryd.results11, e1, hw1, e2, sem_rem, eq_true h180, hw2]
    refine callK (den_sineLow (m - 180) (by omega)) (by first | exact .inl rfl | exact .inr rfl) ?_
    simp (config := { maxSteps := 1000000 }) +decide only [NoH, Old, OldL, nilQ, nilA, RechL, ReY, isNew, stepO, XPost, postN, XOk, updN, updU, isEff, avalue, aeff, ASt.eval, ASt.put, ASt.set, ASt.new, Nat.reduceDiv, Nat.reduceAdd, Int.reduceToNat, absV, absC, scalar, alen, acap, conc, flats, live, blkOf, aload, rd, part?, afieldAddr, afield, aindexAddr, cellsOf, afill, places, abuild, optI, asliceV, asliceS, szOk, srcCells, aappend, astore, amakeSlice, abuildSlice, snapL, mapO, treeL, AVal.tree, AVal.flatT, isFlat, ares, isFz, afroz, afrozB, lookupA, lookupH, tops, if_true, if_false, reduceCtorEq, forall_const, ite_true, ite_false, implies_true, walkS, tabS, Tryd.results11, hw3]
  by_cases h90 : (90 : Int) < (m : Int)
  · have hw2 : IntKind.i64.wrap (180 - (m : Int)) = ((180 - m : Nat) : Int) := (wrap64 (by omega) (by omega)).trans (by omega)
    have hl1 : 180 - m < 91 := by omega
    have hl2 : 180 - m < tab_sineTable.length := hl1
    have ev : snN m = tab_sineTable[180 - m] := by
      unfold snN
      rw [if_neg (by omega), if_pos (by omega)]
      simp [List.getD, hl2]
    rw [ev]
    refine den_of_awp Tryd.func11 rfl (by kernel_rfl) (Nat.le_of_ble_eq_true rfl) (by simp only [treeL, AVal.tree, treeL_i, treeL_ints, treeL_u8, treeL_append, Bool.and_self, Bool.and_true, Bool.true_and]) (by first | rfl | simp only [treeL, AVal.tree, treeL_i, treeL_ints, treeL_u8, treeL_append, Bool.and_self, Bool.and_true, Bool.true_and]) mixed (by kernel_rfl) fun hl => ?_
    simp only [lensL, lens, lensL_i, lensL_mapC, maxI, and_true, true_and] at hl
    rw [Tryd.ntmps11]
    refine ex_start ?_
    simp (config := { maxSteps := 1000000 }) +decide only [NoH, Old, OldL, nilQ, nilA, RechL, ReY, isNew, stepO, XPost, postN, XOk, updN, updU, isEff, avalue, aeff, ASt.eval, ASt.put, ASt.set, ASt.new, Nat.reduceDiv, Nat.reduceAdd, Int.reduceToNat, absV, absC, scalar, alen, acap, conc, flats, live, blkOf, aload, rd, part?, afieldAddr, afield, aindexAddr, cellsOf, afill, places, abuild, optI, asliceV, asliceS, szOk, srcCells, aappend, astore, amakeSlice, abuildSlice, snapL, mapO, treeL, AVal.tree, AVal.flatT, isFlat, ares, isFz, afroz, afrozB, lookupA, lookupH, tops, if_true, if_false, reduceCtorEq, forall_const, ite_true, ite_false, implies_true, walkS, tabS, Tryd.results11, e1, hw1, e2, sem_rem, eq_false h180, eq_true h90, hw2, hl1, tab_get hl2]
  · have hl1 : m < 91 := by omega
    have hl2 : m < tab_sineTable.length := hl1
    have ev : snN m = tab_sineTable[m] := by
      unfold snN
      rw [if_pos (by omega)]
      simp [List.getD, hl2]
    rw [ev]
    refine den_of_awp Tryd.func11 rfl (by kernel_rfl) (Nat.le_of_ble_eq_true rfl) (by simp only [treeL, AVal.tree, treeL_i, treeL_ints, treeL_u8, treeL_append, Bool.and_self, Bool.and_true, Bool.true_and]) (by first | rfl | simp only [treeL, AVal.tree, treeL_i, treeL_ints, treeL_u8, treeL_append, Bool.and_self, Bool.and_true, Bool.true_and]) mixed (by kernel_rfl) fun hl => ?_
    simp only [lensL, lens, lensL_i, lensL_mapC, maxI, and_true, true_and] at hl
    rw [Tryd.ntmps11]
    refine ex_start ?_
    simp (config := { maxSteps := 1000000 }) +decide only [NoH, Old, OldL, nilQ, nilA, RechL, ReY, isNew, stepO, XPost, postN, XOk, updN, updU, isEff, avalue, aeff, ASt.eval, ASt.put, ASt.set, ASt.new, Nat.reduceDiv, Nat.reduceAdd, Int.reduceToNat, absV, absC, scalar, alen, acap, conc, flats, live, blkOf, aload, rd, part?, afieldAddr, afield, aindexAddr, cellsOf, afill, places, abuild, optI, asliceV, asliceS, szOk, srcCells, aappend, astore, amakeSlice, abuildSlice, snapL, mapO, treeL, AVal.tree, AVal.flatT, isFlat, ares, isFz, afroz, afrozB, lookupA, lookupH, tops, if_true, if_false, reduceCtorEq, forall_const, ite_true, ite_false, implies_true, walkS, tabS, Tryd.results11, e1, hw1, e2, sem_rem, eq_false h180, eq_false h90, hl1, tab_get hl2]
theorem den_cosine (d : Int) : Den Tryd.prog 12 [.i d] (.i (cs8 d)) := by
  refine den_of_awp Tryd.func12 rfl (by kernel_rfl) (Nat.le_of_ble_eq_true rfl) (by simp only [treeL, AVal.tree, treeL_i, treeL_ints, treeL_u8, treeL_append, Bool.and_self, Bool.and_true, Bool.true_and]) (by first | rfl | simp only [treeL, AVal.tree, treeL_i, treeL_ints, treeL_u8, treeL_append, Bool.and_self, Bool.and_true, Bool.true_and]) mixed (by kernel_rfl) fun hl => ?_
  simp only [lensL, lens, lensL_i, lensL_mapC, maxI, and_true, true_and] at hl
  rw [Tryd.ntmps12]
  refine ex_start ?_
  have ht := tm_tmod d
  have hb : -360 < tm d ∧ tm d < 360 := by unfold tm; split <;> omega
  have hw : IntKind.i64.wrap (tm d + 90) = tm d + 90 := wrap64 (by omega) (by omega)
  have e : sn (tm d + 90) = cs8 d := by
    unfold cs8 sn
    congr 1
    unfold dg tm
    split <;> omega
  simp (config := { maxSteps := 1000000 }) +decide only [NoH, Old, OldL, nilQ, nilA, RechL, ReY, isNew, stepO, XPost, postN, XOk, updN, updU, isEff, avalue, aeff, ASt.eval, ASt.put, ASt.set, ASt.new, Nat.reduceDiv, Nat.reduceAdd, Int.reduceToNat, absV, absC, scalar, alen, acap, conc, flats, live, blkOf, aload, rd, part?, afieldAddr, afield, aindexAddr, cellsOf, afill, places, abuild, optI, asliceV, asliceS, szOk, srcCells, aappend, astore, amakeSlice, abuildSlice, snapL, mapO, treeL, AVal.tree, AVal.flatT, isFlat, ares, isFz, afroz, afrozB, lookupA, lookupH, tops, if_true, if_false, reduceCtorEq, forall_const, ite_true, ite_false, implies_true, walkS, tabS, Tryd.results12, sem_rem, ht, hw]
  refine callK (den_sine _) (by first | exact .inl rfl | exact .inr rfl) ?_
  simp (config := { maxSteps := 1000000 }) +decide only [NoH, Old, OldL, nilQ, nilA, RechL, ReY, isNew, stepO, XPost, postN, XOk, updN, updU, isEff, avalue, aeff, ASt.eval, ASt.put, ASt.set, ASt.new, Nat.reduceDiv, Nat.reduceAdd, Int.reduceToNat, absV, absC, scalar, alen, acap, conc, flats, live, blkOf, aload, rd, part?, afieldAddr, afield, aindexAddr, cellsOf, afill, places, abuild, optI, asliceV, asliceS, szOk, srcCells, aappend, astore, amakeSlice, abuildSlice, snapL, mapO, treeL, AVal.tree, AVal.flatT, isFlat, ares, isFz, afroz, afrozB, lookupA, lookupH, tops, if_true, if_false, reduceCtorEq, forall_const, ite_true, ite_false, implies_true, walkS, tabS, Tryd.results12, e]
/-! ### bearings -/
theorem den_toward (x y x' y' : Int) (h : OkPt x y) (h' : OkPt x' y') (d : Nat) (hd : d < 360) : Den Tryd.prog 28 [.i d, .iptr [.i x', .i y'] 0, .iptr [.i x, .i y] 0] (.i (tow (x' - x) (y' - y) d)) := by
  refine den_of_awp Tryd.func28 rfl (by kernel_rfl) (Nat.le_of_ble_eq_true rfl) (by simp only [treeL, AVal.tree, treeL_i, treeL_ints, treeL_u8, treeL_append, Bool.and_self, Bool.and_true, Bool.true_and]) (by first | rfl | simp only [treeL, AVal.tree, treeL_i, treeL_ints, treeL_u8, treeL_append, Bool.and_self, Bool.and_true, Bool.true_and]) mixed (by kernel_rfl) fun hl => ?_
  simp only [lensL, lens, lensL_i, lensL_mapC, maxI, and_true, true_and] at hl
  rw [Tryd.ntmps28]
  refine ex_start ?_
  obtain ⟨⟨a1, a2⟩, a3, a4⟩ := h
  obtain ⟨⟨b1, b2⟩, b3, b4⟩ := h'
  have w1 : IntKind.i64.wrap (x' - x) = x' - x := wrap64 (by omega) (by omega)
  have w2 : IntKind.i64.wrap (y' - y) = y' - y := wrap64 (by omega) (by omega)
  have hs := sn_in d
  have hc := sn_in (d + 90)
  have m1 := @mul_bnd (x' - x) (sn d) 200000 (by omega) (by omega)
  have m2 := @mul_bnd (y' - y) (cs8 d) 200000 (by omega) (by omega)
  have k1 : -200000000000 ≤ (x' - x) * sn d ∧ (x' - x) * sn d ≤ 200000000000 := by
    rcases Int.le_total 0 (sn d) with g | g
    · have := m1.1 g; omega
    · have := m1.2 g; omega
  have k2 : -200000000000 ≤ (y' - y) * cs8 d ∧ (y' - y) * cs8 d ≤ 200000000000 := by
    have : -1000000 ≤ cs8 d ∧ cs8 d ≤ 1000000 := hc
    rcases Int.le_total 0 (cs8 d) with g | g
    · have := m2.1 g; omega
    · have := m2.2 g; omega
  have w3 : IntKind.i64.wrap ((x' - x) * sn d) = (x' - x) * sn d := wrap64 (by omega) (by omega)
  have w4 : IntKind.i64.wrap ((y' - y) * cs8 d) = (y' - y) * cs8 d := wrap64 (by omega) (by omega)
  have w5 : IntKind.i64.wrap ((x' - x) * sn d + (y' - y) * cs8 d) = (x' - x) * sn d + (y' - y) * cs8 d := wrap64 (by omega) (by omega)
  have et : tow (x' - x) (y' - y) d = (x' - x) * sn d + (y' - y) * cs8 d := by
    have e0 : dg (d : Int) = d := by unfold dg; omega
    unfold tow
    rw [← eX_dg, ← eY_dg, e0]
  rw [et]
  simp (config := { maxSteps := 1000000 }) +decide only [NoH, Old, OldL, nilQ, nilA, RechL, ReY, isNew, stepO, XPost, postN, XOk, updN, updU, isEff, avalue, aeff, ASt.eval, ASt.put, ASt.set, ASt.new, Nat.reduceDiv, Nat.reduceAdd, Int.reduceToNat, absV, absC, scalar, alen, acap, conc, flats, live, blkOf, aload, rd, part?, afieldAddr, afield, aindexAddr, cellsOf, afill, places, abuild, optI, asliceV, asliceS, szOk, srcCells, aappend, astore, amakeSlice, abuildSlice, snapL, mapO, treeL, AVal.tree, AVal.flatT, isFlat, ares, isFz, afroz, afrozB, lookupA, lookupH, tops, if_true, if_false, reduceCtorEq, forall_const, ite_true, ite_false, implies_true, walkS, tabS, Tryd.results28, w1, w2]
  refine callK (den_sine _) (by first | exact .inl rfl | exact .inr rfl) ?_
  simp (config := { maxSteps := 1000000 }) +decide only [NoH, Old, OldL, nilQ, nilA, RechL, ReY, isNew, stepO, XPost, postN, XOk, updN, updU, isEff, avalue, aeff, ASt.eval, ASt.put, ASt.set, ASt.new, Nat.reduceDiv, Nat.reduceAdd, Int.reduceToNat, absV, absC, scalar, alen, acap, conc, flats, live, blkOf, aload, rd, part?, afieldAddr, afield, aindexAddr, cellsOf, afill, places, abuild, optI, asliceV, asliceS, szOk, srcCells, aappend, astore, amakeSlice, abuildSlice, snapL, mapO, treeL, AVal.tree, AVal.flatT, isFlat, ares, isFz, afroz, afrozB, lookupA, lookupH, tops, if_true, if_false, reduceCtorEq, forall_const, ite_true, ite_false, implies_true, walkS, tabS, Tryd.results28, w1, w2, w3]
  refine callK (den_cosine _) (by first | exact .inl rfl | exact .inr rfl) ?_
  simp (config := { maxSteps := 1000000 }) +decide only [NoH, Old, OldL, nilQ, nilA, RechL, ReY, isNew, stepO, XPost, postN, XOk, updN, updU, isEff, avalue, aeff, ASt.eval, ASt.put, ASt.set, ASt.new, Nat.reduceDiv, Nat.reduceAdd, Int.reduceToNat, absV, absC, scalar, alen, acap, conc, flats, live, blkOf, aload, rd, part?, afieldAddr, afield, aindexAddr, cellsOf, afill, places, abuild, optI, asliceV, asliceS, szOk, srcCells, aappend, astore, amakeSlice, abuildSlice, snapL, mapO, treeL, AVal.tree, AVal.flatT, isFlat, ares, isFz, afroz, afrozB, lookupA, lookupH, tops, if_true, if_false, reduceCtorEq, forall_const, ite_true, ite_false, implies_true, walkS, tabS, Tryd.results28, w1, w2, w3, w4, w5]
theorem den_bearingOf (x y x' y' : Int) (h : OkPt x y) (h' : OkPt x' y') : Den Tryd.prog 18 [.agg [.i x, .i y], .agg [.i x', .i y']] (.i (brg (x' - x) (y' - y))) := by
  refine den_of_awpG (ghs [] [2, 3]) Tryd.func18 rfl (by kernel_rfl) (Nat.le_of_ble_eq_true rfl) (by simp only [treeL, AVal.tree, treeL_i, treeL_ints, treeL_u8, treeL_append, Bool.and_self, Bool.and_true, Bool.true_and]) (by first | rfl | simp only [treeL, AVal.tree, treeL_i, treeL_ints, treeL_u8, treeL_append, Bool.and_self, Bool.and_true, Bool.true_and]) mixed (by kernel_rfl) fun hl => ?_
  simp only [lensL, lens, lensL_i, lensL_mapC, maxI, and_true, true_and] at hl
  rw [Tryd.ntmps18]
  refine ex_start ?_
  simp (config := { maxSteps := 1000000 }) +decide only [NoH, Old, OldL, nilQ, nilA, RechL, ReY, isNew, stepO, XPost, postN, XOk, updN, updU, isEff, avalue, aeff, ASt.eval, ASt.put, ASt.set, ASt.new, Nat.reduceDiv, Nat.reduceAdd, Int.reduceToNat, absV, absC, scalar, alen, acap, conc, flats, live, blkOf, aload, rd, part?, afieldAddr, afield, aindexAddr, cellsOf, afill, places, abuild, optI, asliceV, asliceS, szOk, srcCells, aappend, astore, amakeSlice, abuildSlice, snapL, mapO, treeL, AVal.tree, AVal.flatT, isFlat, ares, isFz, afroz, afrozB, lookupA, lookupH, tops, if_true, if_false, reduceCtorEq, forall_const, ite_true, ite_false, implies_true, walkS, tabS, Tryd.results18]
  refine ex_loop (fun k : {k : Nat // 1 ≤ k ∧ k ≤ 360} => mkG (ghs [] [2, 3]) [(5, .clo 28 [.iptr [.i x', .i y'] 0, .iptr [.i x, .i y] 0]), (6, .i (brK (x' - x) (y' - y) (k - 1))), (7, .i k)] [] 0 22) (fun k => 360 - k) ⟨1, by omega, by omega⟩ ?_ ?_
  · refine weak_mk rfl (by first | exact Nat.le_refl _ | (simp only [mk_gen]; omega)) ?_ ?_ <;> simp +decide only [w_lookup_nil, w_lookup_cons, ch_ch, ch_lit, lit_ch, wkT, wkH, wkB, WVL, WV_refl', Int.natCast_zero, Int.natCast_add, Int.natCast_one, Nat.sub_self, Nat.sub_zero, List.replicate_zero, List.take_zero, List.nil_append, List.append_nil, fillC_zero, Nat.reduceDiv, Nat.reduceAdd, upd_bk, bk_at, getB_zero, getB_succ, modB_zero, modB_succ, rows_lit, repB_zero, repB_succ, List.length_cons, List.length_nil, upd_upd_same, upd_apply, mk_tmp, mk_heap, mk_gen, lookupA, lookupH, List.getD_cons_zero, List.getD_cons_succ, init_two, tops, Bool.true_and, and_self, and_true, true_and, true_or, if_true, if_false, ite_true, ite_false, reduceCtorEq, reduceIte, brK]
  rintro ⟨k, hk1, hk2⟩
  have hb := brK_le (x' - x) (y' - y) (k - 1)
  by_cases hlt : (k : Int) < 360
  · have hw : IntKind.i64.wrap ((k : Int) + 1) = ((k + 1 : Nat) : Int) := wrap64 (by omega) (by omega)
    simp (config := { maxSteps := 1000000 }) +decide only [NoH, Old, OldL, nilQ, nilA, RechL, ReY, isNew, stepO, XPost, postN, XOk, updN, updU, isEff, avalue, aeff, ASt.eval, ASt.put, ASt.set, ASt.new, Nat.reduceDiv, Nat.reduceAdd, Int.reduceToNat, absV, absC, scalar, alen, acap, conc, flats, live, blkOf, aload, rd, part?, afieldAddr, afield, aindexAddr, cellsOf, afill, places, abuild, optI, asliceV, asliceS, szOk, srcCells, aappend, astore, amakeSlice, abuildSlice, snapL, mapO, treeL, AVal.tree, AVal.flatT, isFlat, ares, isFz, afroz, afrozB, lookupA, lookupH, tops, if_true, if_false, reduceCtorEq, forall_const, ite_true, ite_false, implies_true, walkS, tabS, Tryd.results18, eq_true hlt, List.nil_append]
    refine callK (den_toward x y x' y' h h' k (by omega)) (by first | exact .inl rfl | exact .inr rfl) ?_
    simp (config := { maxSteps := 1000000 }) +decide only [NoH, Old, OldL, nilQ, nilA, RechL, ReY, isNew, stepO, XPost, postN, XOk, updN, updU, isEff, avalue, aeff, ASt.eval, ASt.put, ASt.set, ASt.new, Nat.reduceDiv, Nat.reduceAdd, Int.reduceToNat, absV, absC, scalar, alen, acap, conc, flats, live, blkOf, aload, rd, part?, afieldAddr, afield, aindexAddr, cellsOf, afill, places, abuild, optI, asliceV, asliceS, szOk, srcCells, aappend, astore, amakeSlice, abuildSlice, snapL, mapO, treeL, AVal.tree, AVal.flatT, isFlat, ares, isFz, afroz, afrozB, lookupA, lookupH, tops, if_true, if_false, reduceCtorEq, forall_const, ite_true, ite_false, implies_true, walkS, tabS, Tryd.results18]
    refine callK (den_toward x y x' y' h h' (brK (x' - x) (y' - y) (k - 1)) (by omega)) (by first | exact .inl rfl | exact .inr rfl) ?_
    have ek : k - 1 + 1 = k := by omega
    by_cases hq : tow (x' - x) (y' - y) (brK (x' - x) (y' - y) (k - 1)) < tow (x' - x) (y' - y) k
    · have e : brK (x' - x) (y' - y) (k + 1 - 1) = k := by
        rw [show k + 1 - 1 = k - 1 + 1 by omega]
        unfold brK
        rw [ek, if_pos hq]
      simp (config := { maxSteps := 1000000 }) +decide only [NoH, Old, OldL, nilQ, nilA, RechL, ReY, isNew, stepO, XPost, postN, XOk, updN, updU, isEff, avalue, aeff, ASt.eval, ASt.put, ASt.set, ASt.new, Nat.reduceDiv, Nat.reduceAdd, Int.reduceToNat, absV, absC, scalar, alen, acap, conc, flats, live, blkOf, aload, rd, part?, afieldAddr, afield, aindexAddr, cellsOf, afill, places, abuild, optI, asliceV, asliceS, szOk, srcCells, aappend, astore, amakeSlice, abuildSlice, snapL, mapO, treeL, AVal.tree, AVal.flatT, isFlat, ares, isFz, afroz, afrozB, lookupA, lookupH, tops, if_true, if_false, reduceCtorEq, forall_const, ite_true, ite_false, implies_true, walkS, tabS, Tryd.results18, eq_true hq, hw]
      refine ⟨⟨k + 1, by omega, by omega⟩, ?_, by show 360 - (k + 1) < 360 - k; omega⟩
      refine weak_mk rfl (by first | exact Nat.le_refl _ | (simp only [mk_gen]; omega)) ?_ ?_ <;> simp +decide only [w_lookup_nil, w_lookup_cons, ch_ch, ch_lit, lit_ch, wkT, wkH, wkB, WVL, WV_refl', Int.natCast_zero, Int.natCast_add, Int.natCast_one, Nat.sub_self, Nat.sub_zero, List.replicate_zero, List.take_zero, List.nil_append, List.append_nil, fillC_zero, Nat.reduceDiv, Nat.reduceAdd, upd_bk, bk_at, getB_zero, getB_succ, modB_zero, modB_succ, rows_lit, repB_zero, repB_succ, List.length_cons, List.length_nil, upd_upd_same, upd_apply, mk_tmp, mk_heap, mk_gen, lookupA, lookupH, List.getD_cons_zero, List.getD_cons_succ, init_two, tops, Bool.true_and, and_self, and_true, true_and, true_or, if_true, if_false, ite_true, ite_false, reduceCtorEq, reduceIte, e]
    · have e : brK (x' - x) (y' - y) (k + 1 - 1) = brK (x' - x) (y' - y) (k - 1) := by
        rw [show k + 1 - 1 = k - 1 + 1 by omega]
        conv => lhs; unfold brK
        rw [ek, if_neg hq]
      simp (config := { maxSteps := 1000000 }) +decide only [NoH, Old, OldL, nilQ, nilA, RechL, ReY, isNew, stepO, XPost, postN, XOk, updN, updU, isEff, avalue, aeff, ASt.eval, ASt.put, ASt.set, ASt.new, Nat.reduceDiv, Nat.reduceAdd, Int.reduceToNat, absV, absC, scalar, alen, acap, conc, flats, live, blkOf, aload, rd, part?, afieldAddr, afield, aindexAddr, cellsOf, afill, places, abuild, optI, asliceV, asliceS, szOk, srcCells, aappend, astore, amakeSlice, abuildSlice, snapL, mapO, treeL, AVal.tree, AVal.flatT, isFlat, ares, isFz, afroz, afrozB, lookupA, lookupH, tops, if_true, if_false, reduceCtorEq, forall_const, ite_true, ite_false, implies_true, walkS, tabS, Tryd.results18, eq_false hq, hw]
      refine ⟨⟨k + 1, by omega, by omega⟩, ?_, by show 360 - (k + 1) < 360 - k; omega⟩
      refine weak_mk rfl (by first | exact Nat.le_refl _ | (simp only [mk_gen]; omega)) ?_ ?_ <;> simp +decide only [w_lookup_nil, w_lookup_cons, ch_ch, ch_lit, lit_ch, wkT, wkH, wkB, WVL, WV_refl', Int.natCast_zero, Int.natCast_add, Int.natCast_one, Nat.sub_self, Nat.sub_zero, List.replicate_zero, List.take_zero, List.nil_append, List.append_nil, fillC_zero, Nat.reduceDiv, Nat.reduceAdd, upd_bk, bk_at, getB_zero, getB_succ, modB_zero, modB_succ, rows_lit, repB_zero, repB_succ, List.length_cons, List.length_nil, upd_upd_same, upd_apply, mk_tmp, mk_heap, mk_gen, lookupA, lookupH, List.getD_cons_zero, List.getD_cons_succ, init_two, tops, Bool.true_and, and_self, and_true, true_and, true_or, if_true, if_false, ite_true, ite_false, reduceCtorEq, reduceIte, e]
  · have e : k = 360 := by omega
    subst e
    simp (config := { maxSteps := 1000000 }) +decide only [NoH, Old, OldL, nilQ, nilA, RechL, ReY, isNew, stepO, XPost, postN, XOk, updN, updU, isEff, avalue, aeff, ASt.eval, ASt.put, ASt.set, ASt.new, Nat.reduceDiv, Nat.reduceAdd, Int.reduceToNat, absV, absC, scalar, alen, acap, conc, flats, live, blkOf, aload, rd, part?, afieldAddr, afield, aindexAddr, cellsOf, afill, places, abuild, optI, asliceV, asliceS, szOk, srcCells, aappend, astore, amakeSlice, abuildSlice, snapL, mapO, treeL, AVal.tree, AVal.flatT, isFlat, ares, isFz, afroz, afrozB, lookupA, lookupH, tops, if_true, if_false, reduceCtorEq, forall_const, ite_true, ite_false, implies_true, walkS, tabS, Tryd.results18, brg]
end Go.Proofs.YtngghngfgpiomaaDoor
