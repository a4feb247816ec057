/-
  OWN WORK: nearest quotients, sizes of grids, terrains: the tests.
-/
import Derived.Test.YtiaemddmkmfijaaGreatDoorRt
namespace Go.Proofs.YtiaemddmkmfijaaGreatDoor
open Go Go.Own Go.Proofs
set_option maxHeartbeats 4000000
set_option maxRecDepth 20000
set_option linter.unusedSimpArgs false
def ab (n : Int) : Int := if 0 ≤ n then n else -n
/-- the nearest quotient -/
def IsDr (M n d : Int) : Prop := 2 * (M * d - n) ≤ M ∧ -M ≤ 2 * (M * d - n)
theorem den_abs (n : Int) (h1 : -9223372036854775807 ≤ n) (h2 : n ≤ 9223372036854775807) : Den Tryz.prog 137 [.i n] (.i (ab n)) := by
  refine den_of_awp Tryz.func137 rfl (by kernel_rfl) (Nat.le_of_ble_eq_true rfl) (by simp only [treeL, AVal.tree, treeL_i, treeL_ints, treeL_u8, treeL_append, Bool.and_self, Bool.and_true, Bool.true_and]) (by first | rfl | simp only [treeL, AVal.tree, treeL_i, treeL_ints, treeL_u8, treeL_append, Bool.and_self, Bool.and_true, Bool.true_and]) mixed (by kernel_rfl) fun hl => ?_
  simp only [lensL, lens, lensL_i, lensL_mapC, maxI, and_true, true_and] at hl
  rw [Tryz.ntmps137]
  refine ex_start ?_
  have hw : IntKind.i64.wrap (0 - n) = -n := (wrap64 (by omega) (by omega)).trans (by omega)
  have e : (if -n > n then -n else n) = ab n := by unfold ab; split <;> split <;> omega
  simp (config := { maxSteps := 1000000 }) +decide only [NoH, Old, OldL, nilQ, nilA, asgn, nz, RechL, ReY, isNew, stepO, XPost, postN, XOk, updN, updU, isEff, avalue, aeff, ASt.eval, ASt.put, ASt.set, ASt.new, Nat.reduceDiv, Nat.reduceAdd, Int.reduceToNat, absV, absC, scalar, alen, acap, conc, flats, live, blkOf, aload, rd, part?, afieldAddr, afield, aindexAddr, cellsOf, afill, places, abuild, optI, asliceV, asliceS, szOk, srcCells, aappend, acopy, astore, amakeSlice, abuildSlice, snapL, mapO, treeL, AVal.tree, AVal.flatT, isFlat, ares, isFz, afroz, afrozB, lookupA, lookupH, tops, if_true, if_false, reduceCtorEq, forall_const, ite_true, ite_false, implies_true, walkS, tabS, Tryz.results137, hw, sem_max, e]
/-! ### nearest quotients -/
def drV (n m : Int) : Int := if m - ab (n.tmod m) ≤ ab (n.tmod m) then (if n < 0 then n.tdiv m - 1 else n.tdiv m + 1) else n.tdiv m
theorem drV_is {n m : Int} (hm : 0 < m) : IsDr m n (drV n m) := by
  unfold IsDr drV
  have h1 := Int.mul_tdiv_add_tmod n m
  have h2 : ab (n.tmod m) < m ∧ (0 ≤ n → 0 ≤ n.tmod m) ∧ (n < 0 → n.tmod m ≤ 0) := by
    have a1 := Int.tmod_lt_of_pos n hm
    by_cases hn : 0 ≤ n
    · have a2 := Int.tmod_nonneg m hn
      unfold ab
      rw [if_pos a2]
      exact ⟨a1, fun _ => a2, fun h => by omega⟩
    · have a3 := Int.tmod_nonneg (a := -n) m (by omega)
      have a4 := Int.tmod_lt_of_pos (-n) hm
      rw [Int.neg_tmod] at a3 a4
      unfold ab
      split <;> exact ⟨by omega, fun h => by omega, fun _ => by omega⟩
  obtain ⟨h3, h4, h5⟩ := h2
  generalize n.tmod m = r at *
  generalize n.tdiv m = q at *
  have h6 : (0 ≤ r → ab r = r) ∧ (r < 0 → ab r = -r) := by unfold ab; exact ⟨fun h => if_pos h, fun h => if_neg (by omega)⟩
  generalize ab r = s at *
  have e1 : m * (q - 1) = m * q - m := by grind
  have e2 : m * (q + 1) = m * q + m := by grind
  by_cases c1 : m - s ≤ s
  · by_cases c2 : n < 0
    · simp only [if_pos c1, if_pos c2, e1]
      generalize m * q = mq at *
      omega
    · simp only [if_pos c1, if_neg c2, e2]
      generalize m * q = mq at *
      omega
  · simp only [if_neg c1]
    generalize m * q = mq at *
    omega
theorem den_divRound (n m : Int) (hm : 0 < m) (hm2 : m ≤ 1000000000000000) (h1 : -4000000000000000000 ≤ n) (h2 : n ≤ 4000000000000000000) : Den Tryz.prog 123 [.i n, .i m] (.i (drV n m)) := by
  refine den_of_awp Tryz.func123 rfl (by kernel_rfl) (Nat.le_of_ble_eq_true rfl) (by simp only [treeL, AVal.tree, treeL_i, treeL_ints, treeL_u8, treeL_append, Bool.and_self, Bool.and_true, Bool.true_and]) (by first | rfl | simp only [treeL, AVal.tree, treeL_i, treeL_ints, treeL_u8, treeL_append, Bool.and_self, Bool.and_true, Bool.true_and]) mixed (by kernel_rfl) fun hl => ?_
  simp only [lensL, lens, lensL_i, lensL_mapC, maxI, and_true, true_and] at hl
  rw [Tryz.ntmps123]
  refine ex_start ?_
  have hm0 : m ≠ 0 := by omega
  have ht : ab (n.tmod m) < m ∧ -m < n.tmod m ∧ n.tmod m < m := by
    have a1 := Int.tmod_lt_of_pos n hm
    by_cases hn : 0 ≤ n
    · have a2 := Int.tmod_nonneg m hn
      unfold ab
      rw [if_pos a2]
      omega
    · have a3 := Int.tmod_nonneg (a := -n) m (by omega)
      have a4 := Int.tmod_lt_of_pos (-n) hm
      rw [Int.neg_tmod] at a3 a4
      unfold ab
      split <;> omega
  have hq : -4000000000000000000 ≤ n.tdiv m ∧ n.tdiv m ≤ 4000000000000000000 := by
    have key : ∀ a : Int, 0 ≤ a → a ≤ 4000000000000000000 → 0 ≤ a.tdiv m ∧ a.tdiv m ≤ 4000000000000000000 := fun a h0 h1 => by
      refine ⟨Int.tdiv_nonneg h0 (by omega), ?_⟩
      have := Int.tdiv_le_self m h0
      omega
    by_cases hn : 0 ≤ n
    · have := key n hn h2; omega
    · have := key (-n) (by omega) (by omega)
      rw [Int.neg_tdiv] at this
      omega
  have hr0 : 0 ≤ ab (n.tmod m) := by unfold ab; split <;> omega
  have eam : ab m = m := by unfold ab; rw [if_pos (by omega)]
  have w1 : IntKind.i64.wrap (n.tdiv m) = n.tdiv m := wrap64 (by omega) (by omega)
  have w2 : IntKind.i64.wrap (m - ab (n.tmod m)) = m - ab (n.tmod m) := wrap64 (by omega) (by omega)
  have w3 : IntKind.i64.wrap (n.tdiv m + 1) = n.tdiv m + 1 := wrap64 (by omega) (by omega)
  have w4 : IntKind.i64.wrap (n.tdiv m - 1) = n.tdiv m - 1 := wrap64 (by omega) (by omega)
  have hmn : ¬ m < 0 := by omega
  unfold drV
  simp (config := { maxSteps := 1000000 }) +decide only [NoH, Old, OldL, nilQ, nilA, asgn, nz, RechL, ReY, isNew, stepO, XPost, postN, XOk, updN, updU, isEff, avalue, aeff, ASt.eval, ASt.put, ASt.set, ASt.new, Nat.reduceDiv, Nat.reduceAdd, Int.reduceToNat, absV, absC, scalar, alen, acap, conc, flats, live, blkOf, aload, rd, part?, afieldAddr, afield, aindexAddr, cellsOf, afill, places, abuild, optI, asliceV, asliceS, szOk, srcCells, aappend, acopy, astore, amakeSlice, abuildSlice, snapL, mapO, treeL, AVal.tree, AVal.flatT, isFlat, ares, isFz, afroz, afrozB, lookupA, lookupH, tops, if_true, if_false, reduceCtorEq, forall_const, ite_true, ite_false, implies_true, walkS, tabS, Tryz.results123, sem_rem, sem_quo, hm0]
  refine callK (den_abs (n.tmod m) (by omega) (by omega)) (by first | exact .inl rfl | exact .inr rfl) ?_
  simp (config := { maxSteps := 1000000 }) +decide only [NoH, Old, OldL, nilQ, nilA, asgn, nz, RechL, ReY, isNew, stepO, XPost, postN, XOk, updN, updU, isEff, avalue, aeff, ASt.eval, ASt.put, ASt.set, ASt.new, Nat.reduceDiv, Nat.reduceAdd, Int.reduceToNat, absV, absC, scalar, alen, acap, conc, flats, live, blkOf, aload, rd, part?, afieldAddr, afield, aindexAddr, cellsOf, afill, places, abuild, optI, asliceV, asliceS, szOk, srcCells, aappend, acopy, astore, amakeSlice, abuildSlice, snapL, mapO, treeL, AVal.tree, AVal.flatT, isFlat, ares, isFz, afroz, afrozB, lookupA, lookupH, tops, if_true, if_false, reduceCtorEq, forall_const, ite_true, ite_false, implies_true, walkS, tabS, Tryz.results123, sem_rem, sem_quo, hm0, w1]
  refine callK (den_abs m (by omega) (by omega)) (by first | exact .inl rfl | exact .inr rfl) ?_
  by_cases c1 : m - ab (n.tmod m) ≤ ab (n.tmod m)
  · by_cases c2 : n < 0
    · simp (config := { maxSteps := 1000000 }) +decide only [NoH, Old, OldL, nilQ, nilA, asgn, nz, RechL, ReY, isNew, stepO, XPost, postN, XOk, updN, updU, isEff, avalue, aeff, ASt.eval, ASt.put, ASt.set, ASt.new, Nat.reduceDiv, Nat.reduceAdd, Int.reduceToNat, absV, absC, scalar, alen, acap, conc, flats, live, blkOf, aload, rd, part?, afieldAddr, afield, aindexAddr, cellsOf, afill, places, abuild, optI, asliceV, asliceS, szOk, srcCells, aappend, acopy, astore, amakeSlice, abuildSlice, snapL, mapO, treeL, AVal.tree, AVal.flatT, isFlat, ares, isFz, afroz, afrozB, lookupA, lookupH, tops, if_true, if_false, reduceCtorEq, forall_const, ite_true, ite_false, implies_true, walkS, tabS, Tryz.results123, eam, w1, w2, w3, w4, eq_true c1, eq_true c2, eq_false hmn]
    · simp (config := { maxSteps := 1000000 }) +decide only [NoH, Old, OldL, nilQ, nilA, asgn, nz, RechL, ReY, isNew, stepO, XPost, postN, XOk, updN, updU, isEff, avalue, aeff, ASt.eval, ASt.put, ASt.set, ASt.new, Nat.reduceDiv, Nat.reduceAdd, Int.reduceToNat, absV, absC, scalar, alen, acap, conc, flats, live, blkOf, aload, rd, part?, afieldAddr, afield, aindexAddr, cellsOf, afill, places, abuild, optI, asliceV, asliceS, szOk, srcCells, aappend, acopy, astore, amakeSlice, abuildSlice, snapL, mapO, treeL, AVal.tree, AVal.flatT, isFlat, ares, isFz, afroz, afrozB, lookupA, lookupH, tops, if_true, if_false, reduceCtorEq, forall_const, ite_true, ite_false, implies_true, walkS, tabS, Tryz.results123, eam, w1, w2, w3, w4, eq_true c1, eq_false c2, eq_false hmn]
  · simp (config := { maxSteps := 1000000 }) +decide only [NoH, Old, OldL, nilQ, nilA, asgn, nz, RechL, ReY, isNew, stepO, XPost, postN, XOk, updN, updU, isEff, avalue, aeff, ASt.eval, ASt.put, ASt.set, ASt.new, Nat.reduceDiv, Nat.reduceAdd, Int.reduceToNat, absV, absC, scalar, alen, acap, conc, flats, live, blkOf, aload, rd, part?, afieldAddr, afield, aindexAddr, cellsOf, afill, places, abuild, optI, asliceV, asliceS, szOk, srcCells, aappend, acopy, astore, amakeSlice, abuildSlice, snapL, mapO, treeL, AVal.tree, AVal.flatT, isFlat, ares, isFz, afroz, afrozB, lookupA, lookupH, tops, if_true, if_false, reduceCtorEq, forall_const, ite_true, ite_false, implies_true, walkS, tabS, Tryz.results123, eam, w1, w2, eq_false c1]
def Sized (s w h : Int) : Prop := (1 ≤ s ∧ s ≤ 10000) ∧ (2 ≤ w ∧ w ≤ 24) ∧ (2 ≤ h ∧ h ≤ 24) ∧ (w - 1) * s ≤ 200000 ∧ (h - 1) * s ≤ 200000
theorem step_bound {s w : Int} (h1 : 1 ≤ s ∧ s ≤ 10000) (h2 : 2 ≤ w ∧ w ≤ 24) : IntKind.i64.wrap (w - 1) = w - 1 ∧ IntKind.i64.wrap ((w - 1) * s) = (w - 1) * s := by
  have a := Int.mul_le_mul (a := w - 1) (b := s) (c := 23) (d := 10000) (by omega) (by omega) (by omega) (by omega)
  have b := Int.mul_nonneg (a := w - 1) (b := s) (by omega) (by omega)
  exact ⟨wrap64 (by omega) (by omega), wrap64 (by omega) (by omega)⟩
theorem den_sizeOk (s w h : Int) : Den Tryz.prog 121 [.i s, .i w, .i h] (.b (bp (Sized s w h))) := by
  refine den_of_awp Tryz.func121 rfl (by kernel_rfl) (Nat.le_of_ble_eq_true rfl) (by simp only [treeL, AVal.tree, treeL_i, treeL_ints, treeL_u8, treeL_append, Bool.and_self, Bool.and_true, Bool.true_and]) (by first | rfl | simp only [treeL, AVal.tree, treeL_i, treeL_ints, treeL_u8, treeL_append, Bool.and_self, Bool.and_true, Bool.true_and]) mixed (by kernel_rfl) fun hl => ?_
  simp only [lensL, lens, lensL_i, lensL_mapC, maxI, and_true, true_and] at hl
  rw [Tryz.ntmps121]
  refine ex_start ?_
  simp (config := { maxSteps := 1000000 }) +decide only [NoH, Old, OldL, nilQ, nilA, asgn, nz, RechL, ReY, isNew, stepO, XPost, postN, XOk, updN, updU, isEff, avalue, aeff, ASt.eval, ASt.put, ASt.set, ASt.new, Nat.reduceDiv, Nat.reduceAdd, Int.reduceToNat, absV, absC, scalar, alen, acap, conc, flats, live, blkOf, aload, rd, part?, afieldAddr, afield, aindexAddr, cellsOf, afill, places, abuild, optI, asliceV, asliceS, szOk, srcCells, aappend, acopy, astore, amakeSlice, abuildSlice, snapL, mapO, treeL, AVal.tree, AVal.flatT, isFlat, ares, isFz, afroz, afrozB, lookupA, lookupH, tops, if_true, if_false, reduceCtorEq, forall_const, ite_true, ite_false, implies_true, walkS, tabS, Tryz.results121]
  refine callK (den_within _ _ _) (by first | exact .inl rfl | exact .inr rfl) ?_
  simp (config := { maxSteps := 1000000 }) +decide only [NoH, Old, OldL, nilQ, nilA, asgn, nz, RechL, ReY, isNew, stepO, XPost, postN, XOk, updN, updU, isEff, avalue, aeff, ASt.eval, ASt.put, ASt.set, ASt.new, Nat.reduceDiv, Nat.reduceAdd, Int.reduceToNat, absV, absC, scalar, alen, acap, conc, flats, live, blkOf, aload, rd, part?, afieldAddr, afield, aindexAddr, cellsOf, afill, places, abuild, optI, asliceV, asliceS, szOk, srcCells, aappend, acopy, astore, amakeSlice, abuildSlice, snapL, mapO, treeL, AVal.tree, AVal.flatT, isFlat, ares, isFz, afroz, afrozB, lookupA, lookupH, tops, if_true, if_false, reduceCtorEq, forall_const, ite_true, ite_false, implies_true, walkS, tabS, Tryz.results121]
  refine ⟨fun h1 => ?_, fun h1 hr => h1 hr.1⟩
  refine callK (den_within _ _ _) (by first | exact .inl rfl | exact .inr rfl) ?_
  simp (config := { maxSteps := 1000000 }) +decide only [NoH, Old, OldL, nilQ, nilA, asgn, nz, RechL, ReY, isNew, stepO, XPost, postN, XOk, updN, updU, isEff, avalue, aeff, ASt.eval, ASt.put, ASt.set, ASt.new, Nat.reduceDiv, Nat.reduceAdd, Int.reduceToNat, absV, absC, scalar, alen, acap, conc, flats, live, blkOf, aload, rd, part?, afieldAddr, afield, aindexAddr, cellsOf, afill, places, abuild, optI, asliceV, asliceS, szOk, srcCells, aappend, acopy, astore, amakeSlice, abuildSlice, snapL, mapO, treeL, AVal.tree, AVal.flatT, isFlat, ares, isFz, afroz, afrozB, lookupA, lookupH, tops, if_true, if_false, reduceCtorEq, forall_const, ite_true, ite_false, implies_true, walkS, tabS, Tryz.results121]
  refine ⟨fun h2 => ?_, fun h2 hr => h2 hr.2.1⟩
  refine callK (den_within _ _ _) (by first | exact .inl rfl | exact .inr rfl) ?_
  have e2 := step_bound h1 h2
  simp (config := { maxSteps := 1000000 }) +decide only [NoH, Old, OldL, nilQ, nilA, asgn, nz, RechL, ReY, isNew, stepO, XPost, postN, XOk, updN, updU, isEff, avalue, aeff, ASt.eval, ASt.put, ASt.set, ASt.new, Nat.reduceDiv, Nat.reduceAdd, Int.reduceToNat, absV, absC, scalar, alen, acap, conc, flats, live, blkOf, aload, rd, part?, afieldAddr, afield, aindexAddr, cellsOf, afill, places, abuild, optI, asliceV, asliceS, szOk, srcCells, aappend, acopy, astore, amakeSlice, abuildSlice, snapL, mapO, treeL, AVal.tree, AVal.flatT, isFlat, ares, isFz, afroz, afrozB, lookupA, lookupH, tops, if_true, if_false, reduceCtorEq, forall_const, ite_true, ite_false, implies_true, walkS, tabS, Tryz.results121]
  refine ⟨fun h3 => ?_, fun h3 hr => h3 hr.2.2.1⟩
  have e3 := step_bound h1 h3
  by_cases hm : h - 1 > w - 1
  · have hle : (w - 1) * s ≤ (h - 1) * s := Int.mul_le_mul_of_nonneg_right (by omega) (by omega)
    simp (config := { maxSteps := 1000000 }) +decide only [NoH, Old, OldL, nilQ, nilA, asgn, nz, RechL, ReY, isNew, stepO, XPost, postN, XOk, updN, updU, isEff, avalue, aeff, ASt.eval, ASt.put, ASt.set, ASt.new, Nat.reduceDiv, Nat.reduceAdd, Int.reduceToNat, absV, absC, scalar, alen, acap, conc, flats, live, blkOf, aload, rd, part?, afieldAddr, afield, aindexAddr, cellsOf, afill, places, abuild, optI, asliceV, asliceS, szOk, srcCells, aappend, acopy, astore, amakeSlice, abuildSlice, snapL, mapO, treeL, AVal.tree, AVal.flatT, isFlat, ares, isFz, afroz, afrozB, lookupA, lookupH, tops, if_true, if_false, reduceCtorEq, forall_const, ite_true, ite_false, implies_true, walkS, tabS, Tryz.results121, e2.1, e3.1, e3.2, sem_max, hm]
    rw [← bp_decide]
    exact bp_congr ⟨fun h5 => ⟨h1, h2, h3, by omega, h5⟩, fun hr => hr.2.2.2.2⟩
  · have hle : (h - 1) * s ≤ (w - 1) * s := Int.mul_le_mul_of_nonneg_right (by omega) (by omega)
    simp (config := { maxSteps := 1000000 }) +decide only [NoH, Old, OldL, nilQ, nilA, asgn, nz, RechL, ReY, isNew, stepO, XPost, postN, XOk, updN, updU, isEff, avalue, aeff, ASt.eval, ASt.put, ASt.set, ASt.new, Nat.reduceDiv, Nat.reduceAdd, Int.reduceToNat, absV, absC, scalar, alen, acap, conc, flats, live, blkOf, aload, rd, part?, afieldAddr, afield, aindexAddr, cellsOf, afill, places, abuild, optI, asliceV, asliceS, szOk, srcCells, aappend, acopy, astore, amakeSlice, abuildSlice, snapL, mapO, treeL, AVal.tree, AVal.flatT, isFlat, ares, isFz, afroz, afrozB, lookupA, lookupH, tops, if_true, if_false, reduceCtorEq, forall_const, ite_true, ite_false, implies_true, walkS, tabS, Tryz.results121, e2.1, e3.1, e2.2, sem_max, hm]
    rw [← bp_decide]
    exact bp_congr ⟨fun h5 => ⟨h1, h2, h3, h5, by omega⟩, fun hr => hr.2.2.2.1⟩
abbrev terV (s w h : Int) (hs cl : List Int) : AVal := .agg [.i s, .i w, .i h, ints hs, ints cl]
abbrev terC (s w h : Int) (hs cl : List Int) : List AVal := [.i s, .i w, .i h, ints hs, ints cl]
def OkTer (s w h : Int) (hs cl : List Int) : Prop := Sized s w h ∧ (hs.length : Int) = w * h ∧ cl.length = hs.length ∧ (∀ x ∈ hs, 0 ≤ x ∧ x ≤ 90000) ∧ (∀ x ∈ cl, 0 ≤ x ∧ x ≤ 7)
theorem cells_bound {w h : Int} (h2 : 2 ≤ w ∧ w ≤ 24) (h3 : 2 ≤ h ∧ h ≤ 24) : IntKind.i64.wrap (w * h) = w * h ∧ 0 ≤ w * h ∧ w * h ≤ 576 := by
  have a := Int.mul_le_mul (a := w) (b := h) (c := 24) (d := 24) (by omega) (by omega) (by omega) (by omega)
  have b := Int.mul_nonneg (a := w) (b := h) (by omega) (by omega)
  exact ⟨wrap64 (by omega) (by omega), by omega, by omega⟩
theorem den_implValidTerrain (s w h : Int) (hs cl : List Int) : Den Tryz.prog 65 [terV s w h hs cl] (.b (bp (OkTer s w h hs cl))) := by
  refine den_of_awpG (ghs [] [1]) Tryz.func65 rfl (by kernel_rfl) (Nat.le_of_ble_eq_true rfl) (by simp only [treeL, AVal.tree, treeL_i, treeL_ints, treeL_u8, treeL_append, Bool.and_self, Bool.and_true, Bool.true_and]) (by first | rfl | simp only [treeL, AVal.tree, treeL_i, treeL_ints, treeL_u8, treeL_append, Bool.and_self, Bool.and_true, Bool.true_and]) mixed (by kernel_rfl) fun hl => ?_
  simp only [lensL, lens, lensL_i, lensL_mapC, maxI, and_true, true_and] at hl
  rw [Tryz.ntmps65]
  refine ex_start ?_
  simp (config := { maxSteps := 1000000 }) +decide only [NoH, Old, OldL, nilQ, nilA, asgn, nz, RechL, ReY, isNew, stepO, XPost, postN, XOk, updN, updU, isEff, avalue, aeff, ASt.eval, ASt.put, ASt.set, ASt.new, Nat.reduceDiv, Nat.reduceAdd, Int.reduceToNat, absV, absC, scalar, alen, acap, conc, flats, live, blkOf, aload, rd, part?, afieldAddr, afield, aindexAddr, cellsOf, afill, places, abuild, optI, asliceV, asliceS, szOk, srcCells, aappend, acopy, astore, amakeSlice, abuildSlice, snapL, mapO, treeL, AVal.tree, AVal.flatT, isFlat, ares, isFz, afroz, afrozB, lookupA, lookupH, tops, if_true, if_false, reduceCtorEq, forall_const, ite_true, ite_false, implies_true, walkS, tabS, Tryz.results65]
  refine callK (den_sizeOk s w h) (by first | exact .inl rfl | exact .inr rfl) ?_
  by_cases h1 : Sized s w h
  case neg =>
    have hn : ¬ OkTer s w h hs cl := fun h => h1 h.1
    simp (config := { maxSteps := 1000000 }) +decide only [NoH, Old, OldL, nilQ, nilA, asgn, nz, RechL, ReY, isNew, stepO, XPost, postN, XOk, updN, updU, isEff, avalue, aeff, ASt.eval, ASt.put, ASt.set, ASt.new, Nat.reduceDiv, Nat.reduceAdd, Int.reduceToNat, absV, absC, scalar, alen, acap, conc, flats, live, blkOf, aload, rd, part?, afieldAddr, afield, aindexAddr, cellsOf, afill, places, abuild, optI, asliceV, asliceS, szOk, srcCells, aappend, acopy, astore, amakeSlice, abuildSlice, snapL, mapO, treeL, AVal.tree, AVal.flatT, isFlat, ares, isFz, afroz, afrozB, lookupA, lookupH, tops, if_true, if_false, reduceCtorEq, forall_const, ite_true, ite_false, implies_true, walkS, tabS, Tryz.results65, eq_false h1, eq_false hn]
  have hc := (cells_bound h1.2.1 h1.2.2.1).1
  by_cases h2 : (hs.length : Int) = w * h
  case neg =>
    have hn : ¬ OkTer s w h hs cl := fun h => h2 h.2.1
    simp (config := { maxSteps := 1000000 }) +decide only [NoH, Old, OldL, nilQ, nilA, asgn, nz, RechL, ReY, isNew, stepO, XPost, postN, XOk, updN, updU, isEff, avalue, aeff, ASt.eval, ASt.put, ASt.set, ASt.new, Nat.reduceDiv, Nat.reduceAdd, Int.reduceToNat, absV, absC, scalar, alen, acap, conc, flats, live, blkOf, aload, rd, part?, afieldAddr, afield, aindexAddr, cellsOf, afill, places, abuild, optI, asliceV, asliceS, szOk, srcCells, aappend, acopy, astore, amakeSlice, abuildSlice, snapL, mapO, treeL, AVal.tree, AVal.flatT, isFlat, ares, isFz, afroz, afrozB, lookupA, lookupH, tops, if_true, if_false, reduceCtorEq, forall_const, ite_true, ite_false, implies_true, walkS, tabS, Tryz.results65, eq_true h1, hc, eq_false h2, eq_false hn]
  by_cases h3 : (cl.length : Int) = hs.length
  case neg =>
    have hn : ¬ OkTer s w h hs cl := fun h => h3 (by have := h.2.2.1; omega)
    simp (config := { maxSteps := 1000000 }) +decide only [NoH, Old, OldL, nilQ, nilA, asgn, nz, RechL, ReY, isNew, stepO, XPost, postN, XOk, updN, updU, isEff, avalue, aeff, ASt.eval, ASt.put, ASt.set, ASt.new, Nat.reduceDiv, Nat.reduceAdd, Int.reduceToNat, absV, absC, scalar, alen, acap, conc, flats, live, blkOf, aload, rd, part?, afieldAddr, afield, aindexAddr, cellsOf, afill, places, abuild, optI, asliceV, asliceS, szOk, srcCells, aappend, acopy, astore, amakeSlice, abuildSlice, snapL, mapO, treeL, AVal.tree, AVal.flatT, isFlat, ares, isFz, afroz, afrozB, lookupA, lookupH, tops, if_true, if_false, reduceCtorEq, forall_const, ite_true, ite_false, implies_true, walkS, tabS, Tryz.results65, eq_true h1, hc, eq_true h2, eq_false h3, eq_false hn]
  simp (config := { maxSteps := 1000000 }) +decide only [NoH, Old, OldL, nilQ, nilA, asgn, nz, RechL, ReY, isNew, stepO, XPost, postN, XOk, updN, updU, isEff, avalue, aeff, ASt.eval, ASt.put, ASt.set, ASt.new, Nat.reduceDiv, Nat.reduceAdd, Int.reduceToNat, absV, absC, scalar, alen, acap, conc, flats, live, blkOf, aload, rd, part?, afieldAddr, afield, aindexAddr, cellsOf, afill, places, abuild, optI, asliceV, asliceS, szOk, srcCells, aappend, acopy, astore, amakeSlice, abuildSlice, snapL, mapO, treeL, AVal.tree, AVal.flatT, isFlat, ares, isFz, afroz, afrozB, lookupA, lookupH, tops, if_true, if_false, reduceCtorEq, forall_const, ite_true, ite_false, implies_true, walkS, tabS, Tryz.results65, eq_true h1, hc, eq_true h2, eq_true h3]
  refine callK (den_allWithin hs 0 90000) (by first | exact .inl rfl | exact .inr rfl) ?_
  by_cases h4 : ∀ x ∈ hs, 0 ≤ x ∧ x ≤ 90000
  case neg =>
    have hn : ¬ OkTer s w h hs cl := fun h => h4 h.2.2.2.1
    simp (config := { maxSteps := 1000000 }) +decide only [NoH, Old, OldL, nilQ, nilA, asgn, nz, RechL, ReY, isNew, stepO, XPost, postN, XOk, updN, updU, isEff, avalue, aeff, ASt.eval, ASt.put, ASt.set, ASt.new, Nat.reduceDiv, Nat.reduceAdd, Int.reduceToNat, absV, absC, scalar, alen, acap, conc, flats, live, blkOf, aload, rd, part?, afieldAddr, afield, aindexAddr, cellsOf, afill, places, abuild, optI, asliceV, asliceS, szOk, srcCells, aappend, acopy, astore, amakeSlice, abuildSlice, snapL, mapO, treeL, AVal.tree, AVal.flatT, isFlat, ares, isFz, afroz, afrozB, lookupA, lookupH, tops, if_true, if_false, reduceCtorEq, forall_const, ite_true, ite_false, implies_true, walkS, tabS, Tryz.results65, eq_false h4, eq_false hn]
  simp (config := { maxSteps := 1000000 }) +decide only [NoH, Old, OldL, nilQ, nilA, asgn, nz, RechL, ReY, isNew, stepO, XPost, postN, XOk, updN, updU, isEff, avalue, aeff, ASt.eval, ASt.put, ASt.set, ASt.new, Nat.reduceDiv, Nat.reduceAdd, Int.reduceToNat, absV, absC, scalar, alen, acap, conc, flats, live, blkOf, aload, rd, part?, afieldAddr, afield, aindexAddr, cellsOf, afill, places, abuild, optI, asliceV, asliceS, szOk, srcCells, aappend, acopy, astore, amakeSlice, abuildSlice, snapL, mapO, treeL, AVal.tree, AVal.flatT, isFlat, ares, isFz, afroz, afrozB, lookupA, lookupH, tops, if_true, if_false, reduceCtorEq, forall_const, ite_true, ite_false, implies_true, walkS, tabS, Tryz.results65, eq_true h4]
  refine callK (den_allWithin cl 0 7) (by first | exact .inl rfl | exact .inr rfl) ?_
  by_cases h5 : ∀ x ∈ cl, 0 ≤ x ∧ x ≤ 7
  · have hn : OkTer s w h hs cl := ⟨h1, h2, by omega, h4, h5⟩
    simp (config := { maxSteps := 1000000 }) +decide only [NoH, Old, OldL, nilQ, nilA, asgn, nz, RechL, ReY, isNew, stepO, XPost, postN, XOk, updN, updU, isEff, avalue, aeff, ASt.eval, ASt.put, ASt.set, ASt.new, Nat.reduceDiv, Nat.reduceAdd, Int.reduceToNat, absV, absC, scalar, alen, acap, conc, flats, live, blkOf, aload, rd, part?, afieldAddr, afield, aindexAddr, cellsOf, afill, places, abuild, optI, asliceV, asliceS, szOk, srcCells, aappend, acopy, astore, amakeSlice, abuildSlice, snapL, mapO, treeL, AVal.tree, AVal.flatT, isFlat, ares, isFz, afroz, afrozB, lookupA, lookupH, tops, if_true, if_false, reduceCtorEq, forall_const, ite_true, ite_false, implies_true, walkS, tabS, Tryz.results65, eq_true h5, eq_true hn]
  · have hn : ¬ OkTer s w h hs cl := fun h => h5 h.2.2.2.2
    simp (config := { maxSteps := 1000000 }) +decide only [NoH, Old, OldL, nilQ, nilA, asgn, nz, RechL, ReY, isNew, stepO, XPost, postN, XOk, updN, updU, isEff, avalue, aeff, ASt.eval, ASt.put, ASt.set, ASt.new, Nat.reduceDiv, Nat.reduceAdd, Int.reduceToNat, absV, absC, scalar, alen, acap, conc, flats, live, blkOf, aload, rd, part?, afieldAddr, afield, aindexAddr, cellsOf, afill, places, abuild, optI, asliceV, asliceS, szOk, srcCells, aappend, acopy, astore, amakeSlice, abuildSlice, snapL, mapO, treeL, AVal.tree, AVal.flatT, isFlat, ares, isFz, afroz, afrozB, lookupA, lookupH, tops, if_true, if_false, reduceCtorEq, forall_const, ite_true, ite_false, implies_true, walkS, tabS, Tryz.results65, eq_false h5, eq_false hn]
def InTer (s w h x y : Int) : Prop := (0 ≤ x ∧ x ≤ (w - 1) * s) ∧ (0 ≤ y ∧ y ≤ (h - 1) * s)
theorem den_terHas (s w h : Int) (hs cl : List Int) (x y : Int) (hz : Sized s w h) : Den Tryz.prog 66 [terV s w h hs cl, .agg [.i x, .i y]] (.b (bp (InTer s w h x y))) := by
  refine den_of_awpG (ghs [] [2, 3]) Tryz.func66 rfl (by kernel_rfl) (Nat.le_of_ble_eq_true rfl) (by simp only [treeL, AVal.tree, treeL_i, treeL_ints, treeL_u8, treeL_append, Bool.and_self, Bool.and_true, Bool.true_and]) (by first | rfl | simp only [treeL, AVal.tree, treeL_i, treeL_ints, treeL_u8, treeL_append, Bool.and_self, Bool.and_true, Bool.true_and]) mixed (by kernel_rfl) fun hl => ?_
  simp only [lensL, lens, lensL_i, lensL_mapC, maxI, and_true, true_and] at hl
  rw [Tryz.ntmps66]
  refine ex_start ?_
  have e2 := step_bound hz.1 hz.2.1
  have e3 := step_bound hz.1 hz.2.2.1
  simp (config := { maxSteps := 1000000 }) +decide only [NoH, Old, OldL, nilQ, nilA, asgn, nz, RechL, ReY, isNew, stepO, XPost, postN, XOk, updN, updU, isEff, avalue, aeff, ASt.eval, ASt.put, ASt.set, ASt.new, Nat.reduceDiv, Nat.reduceAdd, Int.reduceToNat, absV, absC, scalar, alen, acap, conc, flats, live, blkOf, aload, rd, part?, afieldAddr, afield, aindexAddr, cellsOf, afill, places, abuild, optI, asliceV, asliceS, szOk, srcCells, aappend, acopy, astore, amakeSlice, abuildSlice, snapL, mapO, treeL, AVal.tree, AVal.flatT, isFlat, ares, isFz, afroz, afrozB, lookupA, lookupH, tops, if_true, if_false, reduceCtorEq, forall_const, ite_true, ite_false, implies_true, walkS, tabS, Tryz.results66, e2.1, e2.2]
  refine callK (den_within x 0 ((w - 1) * s)) (by first | exact .inl rfl | exact .inr rfl) ?_
  by_cases h1 : 0 ≤ x ∧ x ≤ (w - 1) * s
  case neg =>
    have hn : ¬ InTer s w h x y := fun h => h1 h.1
    simp (config := { maxSteps := 1000000 }) +decide only [NoH, Old, OldL, nilQ, nilA, asgn, nz, RechL, ReY, isNew, stepO, XPost, postN, XOk, updN, updU, isEff, avalue, aeff, ASt.eval, ASt.put, ASt.set, ASt.new, Nat.reduceDiv, Nat.reduceAdd, Int.reduceToNat, absV, absC, scalar, alen, acap, conc, flats, live, blkOf, aload, rd, part?, afieldAddr, afield, aindexAddr, cellsOf, afill, places, abuild, optI, asliceV, asliceS, szOk, srcCells, aappend, acopy, astore, amakeSlice, abuildSlice, snapL, mapO, treeL, AVal.tree, AVal.flatT, isFlat, ares, isFz, afroz, afrozB, lookupA, lookupH, tops, if_true, if_false, reduceCtorEq, forall_const, ite_true, ite_false, implies_true, walkS, tabS, Tryz.results66, eq_false h1, eq_false hn]
  simp (config := { maxSteps := 1000000 }) +decide only [NoH, Old, OldL, nilQ, nilA, asgn, nz, RechL, ReY, isNew, stepO, XPost, postN, XOk, updN, updU, isEff, avalue, aeff, ASt.eval, ASt.put, ASt.set, ASt.new, Nat.reduceDiv, Nat.reduceAdd, Int.reduceToNat, absV, absC, scalar, alen, acap, conc, flats, live, blkOf, aload, rd, part?, afieldAddr, afield, aindexAddr, cellsOf, afill, places, abuild, optI, asliceV, asliceS, szOk, srcCells, aappend, acopy, astore, amakeSlice, abuildSlice, snapL, mapO, treeL, AVal.tree, AVal.flatT, isFlat, ares, isFz, afroz, afrozB, lookupA, lookupH, tops, if_true, if_false, reduceCtorEq, forall_const, ite_true, ite_false, implies_true, walkS, tabS, Tryz.results66, eq_true h1, e3.1, e3.2]
  refine callK (den_within y 0 ((h - 1) * s)) (by first | exact .inl rfl | exact .inr rfl) ?_
  by_cases h2 : 0 ≤ y ∧ y ≤ (h - 1) * s
  · have hn : InTer s w h x y := ⟨h1, h2⟩
    simp (config := { maxSteps := 1000000 }) +decide only [NoH, Old, OldL, nilQ, nilA, asgn, nz, RechL, ReY, isNew, stepO, XPost, postN, XOk, updN, updU, isEff, avalue, aeff, ASt.eval, ASt.put, ASt.set, ASt.new, Nat.reduceDiv, Nat.reduceAdd, Int.reduceToNat, absV, absC, scalar, alen, acap, conc, flats, live, blkOf, aload, rd, part?, afieldAddr, afield, aindexAddr, cellsOf, afill, places, abuild, optI, asliceV, asliceS, szOk, srcCells, aappend, acopy, astore, amakeSlice, abuildSlice, snapL, mapO, treeL, AVal.tree, AVal.flatT, isFlat, ares, isFz, afroz, afrozB, lookupA, lookupH, tops, if_true, if_false, reduceCtorEq, forall_const, ite_true, ite_false, implies_true, walkS, tabS, Tryz.results66, eq_true h2, eq_true hn]
  · have hn : ¬ InTer s w h x y := fun h => h2 h.2
    simp (config := { maxSteps := 1000000 }) +decide only [NoH, Old, OldL, nilQ, nilA, asgn, nz, RechL, ReY, isNew, stepO, XPost, postN, XOk, updN, updU, isEff, avalue, aeff, ASt.eval, ASt.put, ASt.set, ASt.new, Nat.reduceDiv, Nat.reduceAdd, Int.reduceToNat, absV, absC, scalar, alen, acap, conc, flats, live, blkOf, aload, rd, part?, afieldAddr, afield, aindexAddr, cellsOf, afill, places, abuild, optI, asliceV, asliceS, szOk, srcCells, aappend, acopy, astore, amakeSlice, abuildSlice, snapL, mapO, treeL, AVal.tree, AVal.flatT, isFlat, ares, isFz, afroz, afrozB, lookupA, lookupH, tops, if_true, if_false, reduceCtorEq, forall_const, ite_true, ite_false, implies_true, walkS, tabS, Tryz.results66, eq_false h2, eq_false hn]
end Go.Proofs.YtiaemddmkmfijaaGreatDoor
